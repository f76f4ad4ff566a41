/- What functions of the given program compute, as contracts. -/
import Derived.Test.YtdeflkhkfmjckaaSGFnInOrderx5
import Derived.Test.YtdeflkhkfmjckaaXGFnInOrder12
import Derived.Test.YtdeflkhkfmjckaaXGFnInOrder6
import Derived.Test.YtdeflkhkfmjckaaXGFnInOrder7
import Derived.Test.YtdeflkhkfmjckaaXGFnInOrder8
set_option linter.unusedVariables false
set_option linter.unusedSimpArgs false
set_option maxRecDepth 4000
open Nat renaming reduceAdd → jq, reduceMul → jj, reduceBEq → jy, reduceLeDiff → jv, reduceLT → jk, reduceEqDiff → jx
open Bool renaming or_eq_false_iff → jp, or_eq_true → jQ, and_eq_true → jJ
open Int renaming toNat_natCast → jW, natCast_nonneg → jY
open Go.Proofs.Try renaming prog → jV
namespace Go.Proofs.Ytdeflkhkfmjckaa
open Go Go.SL
set_option maxHeartbeats 1000000
theorem zCZ {S:Int→Option (List Int)}:∀ {n:Nat} {m:Int} {l:List Int},zCs S n m=some l→∃ t,m≤t∧t≤2880∧S t=some l∧∀ t',m≤t'→t' < t→S t'=none
 | 0,_,_,h=>by cases h
 | n+1,m,l,h=>by
  rw [zCs] at h
  split at h
  ·rename_i hm
   cases hS:S m with
   | some z =>
    rw [hS] at h
    exact ⟨m,Int.le_refl _,hm,by rw [hS];exact h,fun t' h1 h2=>absurd h1 (by omega)⟩
   | none =>
    rw [hS] at h
    obtain ⟨t,h1,h2,h3,h4⟩:=zCZ h
    refine ⟨t,by omega,h2,h3,fun t' h5 h6=>?_⟩
    rcases Int.lt_or_le m t' with h7|h7
    ·exact h4 t' (by omega) h6
    ·obtain rfl:t'=m:=by omega
     exact hS
  ·cases h
theorem zC0 {S:Int→Option (List Int)}:∀ {n:Nat} {m:Int},n=(2881 - m).toNat→zCs S n m=none→∀ t,m≤t→t≤2880→S t=none
 | 0,m,hn,_,t,h1,h2=>absurd h2 (by omega)
 | n+1,m,hn,h,t,h1,h2=>by
  rw [zCs,if_pos (by omega)] at h
  cases hS:S m with
  | some z=>rw [hS] at h;cases h
  | none =>
   rw [hS] at h
   rcases Int.lt_or_le m t with h7|h7
   ·exact zC0 (m:=m+1) (by omega) h t (by omega) h2
   ·obtain rfl:t=m:=by omega
    exact hS
theorem zC1 {w:List Bool} {m:List Int} {u:List (List DWindow)} {st:Int}:∀ {k:Nat} {l:List Int},slK w m u st k=some l→∀ i,i < k→IntKind.i64.wrap (l.getD i 0+m.getD i 0) < l.getD (i+1) 0→w.getD (i+1) false=true
 | 0,_,_,i,hi,_=>absurd hi (Nat.not_lt_zero i)
 | k+1,l,h,i,hi,hlt=>by
  rw [slK] at h
  obtain ⟨p,hp,h⟩:=Option.bind_eq_some_iff.1 h
  have hl:=zyw hp
  unfold zyr at h
  dsimp only at h
  split at h
  ·cases h
  ·rename_i hc
   rw [not_or,not_and] at hc
   have e:=Option.some.inj h
   rw [← e] at hlt
   rcases Nat.lt_or_ge i k with hik|hik
   ·rw [zBD (by omega),zBD (by omega)] at hlt
    exact zC1 hp i hik hlt
   ·obtain rfl:i=k:=by omega
    rw [zBD (by omega),zBE hl] at hlt
    have:=hc.2 hlt
    rwa [Bool.not_eq_false] at this
theorem Voy.step {x:DHarbour} {a:DCall} {r:List Int} {m:Int} {pl l:List Int} (V:Voy x a r m pl l) {i:Nat} (hi:i+1 < r.length):(zxL (Con.con x.chart) a.ship (zyD (Con.con x) a) pl r l i).fin≤l.getD (i+1) 0:=by
 have:=zBF V.sl i (by omega)
 rw [mL,zzr (by omega)] at this
 exact this
theorem Voy.wait {x:DHarbour} {a:DCall} {r:List Int} {m:Int} {pl l:List Int} (V:Voy x a r m pl l) {i:Nat} (hi:i+1 < r.length) (h:(zxL (Con.con x.chart) a.ship (zyD (Con.con x) a) pl r l i).fin < l.getD (i+1) 0):((Con.con x.chart:PChart).points.getD (pl.getD (i+1) 0).toNat dP).wait=true:=by
 have hw:=zC1 V.sl i (by omega) (by rw [mL,zzr (by omega)];exact h)
 rw [wL,zyl,List.getD_eq_getElem?_getD,List.getElem?_map,List.getElem?_range hi,V.rt] at hw
 exact hw
theorem Voy.chain {x:DHarbour} {a:DCall} {r:List Int} {m:Int} {pl l:List Int} (V:Voy x a r m pl l):zxr (Con.con x.chart) (pasL (Con.con x.chart) a.ship (zyD (Con.con x) a) pl r l r.length)=true:=by
 rw [zxr,V.hc,Bool.true_and,decide_eq_true_eq]
 intro i hi
 rw [zxQ] at hi
 rw [chOk,chIn,chTo,zBI hi,zBI V.n0,zBI (show i - 1 < r.length by omega)]
 simp only [jJ,jQ,decide_eq_true_eq]
 refine ⟨⟨rfl,V.rg i hi⟩,?_⟩
 rcases Nat.eq_zero_or_pos i with h0|h0
 ·exact .inl h0
 ·refine .inr ⟨?_,?_⟩
  ·rw [V.ends hi,V.ends (show i - 1 < r.length by omega)]
   show pl.getD i 0=pl.getD (i - 1+1) 0
   rw [show i - 1+1=i by omega]
  ·have:=V.step (i:=i - 1) (by omega)
   rw [show i - 1+1=i by omega] at this
   exact this
theorem Voy.fin {x:DHarbour} {a:DCall} {r:List Int} {m:Int} {pl l:List Int} (V:Voy x a r m pl l):zxJ (Con.con x.chart) (zyD (Con.con x) a) r l=(zxL (Con.con x.chart) a.ship (zyD (Con.con x) a) pl r l (r.length - 1)).fin:=by
 have hn:=V.n0
 rw [V.ar]
 have b1:=V.li (r.length - 1) (by omega)
 have b2:=V.mi (r.length - 1) (by omega)
 have b3:=zzr (c:=Con.con x.chart) (s:=zyD (Con.con x) a) (r:=r) (n:=r.length) (i:=r.length - 1) (by omega)
 have b4:zvG (zyD (Con.con x) a) ((Con.con x.chart:PChart).segments.getD (r.getD (r.length - 1) 0).toNat dG)=(mL x a r).getD (r.length - 1) 0:=b3.symm
 show _=IntKind.i64.wrap (l.getD (r.length - 1) 0+zvG (zyD (Con.con x) a) ((Con.con x.chart:PChart).segments.getD (r.getD (r.length - 1) 0).toNat dG))
 rw [b4,zjz (by omega)]
theorem zC2 {x:DHarbour} {a:DCall} {r:List Int} (hok:zvB (Con.con x) a=true) (hb:zyd (Con.con x.chart) a.src a.dst=some r) {rd:Int} (h0:0≤rd) {l:List Int} (h:zCt (Con.con x.forecast) (Con.con x.chart) (zyD (Con.con x) a) a.src r rd=some l) :
  ∃ t pl,rd≤t∧(0≤t∧t≤2880)∧Voy x a r t pl l∧l.getD 0 0=t∧∀ t',rd≤t'→t' < t→zyB (Con.con x.forecast) (Con.con x.chart) (zyD (Con.con x) a) a.src r t'=none:=by
 rw [zCt,show max rd 0=rd by omega] at h
 obtain ⟨t,h1,h2,h3,h4⟩:=zCZ h
 obtain ⟨pl,V⟩:=zBV hok (zy4 hok hb) ⟨by omega,h2⟩ h3
 exact ⟨t,pl,h1,⟨by omega,h2⟩,V,zyT V.sl,h4⟩
theorem zC3 {x:DHarbour} {a:DCall} {r:List Int} (hok:zvB (Con.con x) a=true) (hb:zyd (Con.con x.chart) a.src a.dst=some r) {m m':Int} (h0:0≤m) (hle:m≤m') {l':List Int} (h:zCt (Con.con x.forecast) (Con.con x.chart) (zyD (Con.con x) a) a.src r m'=some l') :
  ∃ l,zCt (Con.con x.forecast) (Con.con x.chart) (zyD (Con.con x) a) a.src r m=some l∧l.length=r.length∧l'.length=r.length∧zxJ (Con.con x.chart) (zyD (Con.con x) a) r l≤zxJ (Con.con x.chart) (zyD (Con.con x) a) r l':=by
 obtain ⟨t',pl',h1',h2',V',_,_⟩:=zC2 hok hb (by omega) h
 cases hl:zCt (Con.con x.forecast) (Con.con x.chart) (zyD (Con.con x) a) a.src r m with
 | none =>
  rw [zCt,show max m 0=m by omega] at hl
  have:=zC0 rfl hl t' (by omega) h2'.2
  rw [V'.sr] at this;cases this
 | some l =>
  obtain ⟨t,pl,h1,h2,V,_,h3⟩:=zC2 hok hb h0 hl
  have htt:t≤t':=by
   rcases Int.lt_or_le t' t with h9|h9
   ·have:=h3 t' (by omega) h9
    rw [V'.sr] at this;cases this
   ·exact h9
  refine ⟨l,rfl,V.ll,V'.ll,?_⟩
  rw [V.ar,V'.ar]
  have hn:=V.n0
  have:=V.mono V' h2 h2' htt (r.length - 1) (by omega)
  omega
theorem zC4 (f:DForecast) (c:DChart) (k:Int) (s:DShip) (m:Int) (h:Hp) (hf:Enc.ok h f) (hc:Enc.ok h c) (hs:Enc.ok h s):Ct jV 21 [f.v,c.v,.int .i64 k,s.v,.int .i64 m] h fun v h'=>v=.bool (zCq (Con.con f) (Con.con c) k s m)∧h'=h:=by
 refine Ct.forget ?_
 refine zdn (fun A W=>by simp) Try.func21 rfl rfl (by simp) fun W0=>?_
 refine Wk ?_
 refine zkj (zwR f c k s _ hf hc hs) rfl ?_
 rintro v h1 le1 ⟨r,rfl,e1,ok1,m1⟩
 repeat' first|refine Wa ?_|refine zhF (fun _=>zwk r m _ ok1) ?_|(simp only [go_sem,jq,jj,jy,jv,jk,jx];try rfl)|refine Wb ?_|fail
 rw [zCq,e1]
theorem zC5 (f:DForecast) (c:DChart) (fl:Sl DShip) (p:DPassage) (h:Hp) (hfo:Enc.ok h f) (hc:Enc.ok h c) (hf:fl.Ok h):Ct jV 28 [f.v,c.v,fl.val,p.v] h fun v h'=>v=.bool (zCr (Con.con f) (Con.con c) fl.l p)∧h'=h:=by
 refine Ct.forget ?_
 refine zdn (fun A W=>by simp) Try.func28 rfl rfl (by simp) fun W0=>?_
 refine Wk ?_
 cases hp:zvI (Con.con c) fl.l p with
 | false =>
  rw [show zCr (Con.con f) (Con.con c) fl.l p=false by rw [zCr,hp];rfl]
  refine znv rfl ?_
  refine U_t [0,1,2] rfl ?_
  simp only [go_sem,jq,jj,jy,jv,jk,jx,hp,implies_true,true_and,and_true,and_self,reduceCtorEq,Bool.false_eq_true,false_implies]
  refine U_1 3 0 [] rfl rfl ?_
  simp only [go_sem,jq,jj,jy,jv,jk,jx,hp,implies_true,true_and,and_true,and_self,reduceCtorEq,Bool.false_eq_true,false_implies]
  refine zhF (fun _=>zvP c fl p _ hc hf) ?_
  simp only [go_sem,jq,jj,jy,jv,jk,jx,hp,implies_true,true_and,and_true,and_self,reduceCtorEq,Bool.false_eq_true,false_implies]
  refine U_t [4,5,6,7,9,10,14,8,11,15,12,13] rfl ?_
  simp only [go_sem,jq,jj,jy,jv,jk,jx,hp,implies_true,true_and,and_true,and_self,reduceCtorEq,Bool.false_eq_true,false_implies]
  refine U_1 16 0 [] rfl rfl ?_
  simp only [go_sem,jq,jj,jy,jv,jk,jx,hp,implies_true,true_and,and_true,and_self,reduceCtorEq,Bool.false_eq_true,false_implies]
  refine ⟨List.all_eq_true.2 fun y hy=>by obtain ⟨z,_,rfl⟩:=List.mem_map.1 hy;rfl,?_⟩
  refine zhF (V:=.bool false) (fun hg=>by cases hg) ?_
  simp only [go_sem,jq,jj,jy,jv,jk,jx,hp,implies_true,true_and,and_true,and_self,reduceCtorEq,Bool.false_eq_true,false_implies]
  refine U_t [17,18] rfl ?_
  simp only [go_sem,jq,jj,jy,jv,jk,jx,hp,implies_true,true_and,and_true,and_self,reduceCtorEq,Bool.false_eq_true,false_implies]
  refine U_d ?_
  exact Wk0
 | true =>
  have hq:=hp
  rw [zvI,jJ,jJ,zvH,jJ,decide_eq_true_eq] at hq
  have hi0:0≤p.ship:=hq.2.1.1
  have hi:p.ship.toNat < fl.l.length:=by have:=hq.2.1.2.1;omega
  have hii:p.ship < fl.l.length:=hq.2.1.2.1
  rw [show zCr (Con.con f) (Con.con c) fl.l p=zCq (Con.con f) (Con.con c) p.seg fl.l[p.ship.toNat] p.start by rw [zCr,hp,hget hi];rfl]
  refine znv rfl ?_
  refine U_t [0,1,2] rfl ?_
  simp only [go_sem,jq,jj,jy,jv,jk,jx,hp,zk0 hf hi,hf.some hi,hi,hii,hi0,jW,implies_true,true_and,and_true,and_self,reduceCtorEq,Bool.false_eq_true,false_implies]
  refine U_1 3 0 [] rfl rfl ?_
  simp only [go_sem,jq,jj,jy,jv,jk,jx,hp,zk0 hf hi,hf.some hi,hi,hii,hi0,jW,implies_true,true_and,and_true,and_self,reduceCtorEq,Bool.false_eq_true,false_implies]
  refine zhF (fun _=>zvP c fl p _ hc hf) ?_
  simp only [go_sem,jq,jj,jy,jv,jk,jx,hp,zk0 hf hi,hf.some hi,hi,hii,hi0,jW,implies_true,true_and,and_true,and_self,reduceCtorEq,Bool.false_eq_true,false_implies]
  refine U_t [4,5,6,7,9,10,14,8,11,15,12,13] rfl ?_
  simp only [go_sem,jq,jj,jy,jv,jk,jx,hp,zk0 hf hi,hf.some hi,hi,hii,hi0,jW,implies_true,true_and,and_true,and_self,reduceCtorEq,Bool.false_eq_true,false_implies]
  refine U_1 16 0 [] rfl rfl ?_
  simp only [go_sem,jq,jj,jy,jv,jk,jx,hp,zk0 hf hi,hf.some hi,hi,hii,hi0,jW,implies_true,true_and,and_true,and_self,reduceCtorEq,Bool.false_eq_true,false_implies]
  refine zhF (fun _=>zC4 f c p.seg fl.l[p.ship.toNat] p.start _ hfo hc (hf.el hi)) ?_
  simp only [go_sem,jq,jj,jy,jv,jk,jx,hp,zk0 hf hi,hf.some hi,hi,hii,hi0,jW,implies_true,true_and,and_true,and_self,reduceCtorEq,Bool.false_eq_true,false_implies]
  refine U_t [17,18] rfl ?_
  simp only [go_sem,jq,jj,jy,jv,jk,jx,hp,zk0 hf hi,hf.some hi,hi,hii,hi0,jW,implies_true,true_and,and_true,and_self,reduceCtorEq,Bool.false_eq_true,false_implies]
  refine U_d ?_
  exact Wk0
theorem zE1 (f:DForecast) (c:DChart) (s:DShip) (a:Int) (r:Sl Int) (st:Int) (h:Hp) (hf:Enc.ok h f) (hc:Enc.ok h c) (hs:Enc.ok h s) (ha:I64 a) (hr:r.Ok h) (hst:I64 st) (hz:r.l.length≤1048576):Ct jV 17 [f.v,c.v,s.v,.int .i64 a,r.val,.int .i64 st] h fun v h' =>
  ∃ q:Sl Int,v=.tuple #[q.val,.bool (zyB (Con.con f) (Con.con c) s a r.l st).isSome]∧q.l=(zyB (Con.con f) (Con.con c) s a r.l st).getD []∧q.Ok h':=by
 refine zdn (fun A W=>by simp) Try.func17 rfl rfl (by simp) fun W0=>?_
 refine Wk ?_
 refine zkj (zyo f c s a r _ hf hc hs ha hr hz) rfl ?_
 rintro v h1 le1 ⟨w,m,u,rfl,ow,om,ou,hw⟩
 refine Wk ?_
 refine zc9 rfl (fun hq=>?_) (fun hq=>?_)
 ·rw [Bool.not_eq_true'] at hq
  rw [zyB,if_neg (by rw [hq];exact Bool.false_ne_true)]
  refine Wk ?_
  exact ⟨⟨none,0,[]⟩,rfl,rfl,zmo⟩
 rw [Bool.not_eq_false'] at hq
 obtain ⟨l1,l2,l3⟩:=hw hq
 have hwn:w.l.length=r.l.length:=by rw [l1];exact rmap_len
 have hmn:m.l.length=r.l.length:=by rw [l2];exact rmap_len
 have hun:u.l.length=r.l.length:=by have:=congrArg List.length l3;rwa [List.length_map,zym,rmap_len] at this
 have hr0:0 < r.l.length:=by
  have hv:=hq
  rw [voOk,jJ,decide_eq_true_eq] at hv;exact hv.2
 have hS:zys w.l m.l (u.l.map (·.l)) st=zyB (Con.con f) (Con.con c) s a r.l st:=by
  rw [zyB,if_pos hq,l1,l2,l3]
 refine Wk ?_
 refine zkj (zyA w m u st _ ow om ou hst (by omega) (by omega) (by omega) (by omega)) rfl ?_
 rintro v h2 le2 ⟨q,rfl,eq,okq⟩
 rw [hS] at eq ⊢
 refine Wk ?_
 exact ⟨q,rfl,eq,okq⟩
theorem zC6 (f:DForecast) (c:DChart) (s:DShip) (a:Int) (r:Sl Int) (rd:Int) (h:Hp) (hf:Enc.ok h f) (hc:Enc.ok h c) (hs:Enc.ok h s) (ha:I64 a) (hr:r.Ok h) (hrd:rd≤100000) (hz:r.l.length≤1048576):Ct jV 11 [f.v,c.v,s.v,.int .i64 a,r.val,.int .i64 rd] h fun v h' =>
  ∃ q:Sl Int,v=.tuple #[q.val,.bool (zCt (Con.con f) (Con.con c) s a r.l rd).isSome]∧q.l=(zCt (Con.con f) (Con.con c) s a r.l rd).getD []∧q.Ok h':=by
 refine zdn (fun A W=>by simp) Try.func11 rfl rfl (by simp) fun W0=>?_
 refine Wk ?_
 refine zkj (zyo f c s a r _ hf hc hs ha hr hz) rfl ?_
 rintro v h1 le1 ⟨w,m,u,rfl,ow,om,ou,hw⟩
 refine Wk ?_
 refine zc9 rfl (fun hq=>?_) (fun hq=>?_)
 ·rw [Bool.not_eq_true'] at hq
  rw [zCt,zCu hq]
  refine Wk ?_
  exact ⟨⟨none,0,[]⟩,rfl,rfl,zmo⟩
 rw [Bool.not_eq_false'] at hq
 obtain ⟨l1,l2,l3⟩:=hw hq
 have hwn:w.l.length=r.l.length:=by rw [l1];exact rmap_len
 have hmn:m.l.length=r.l.length:=by rw [l2];exact rmap_len
 have hun:u.l.length=r.l.length:=by have:=congrArg List.length l3;rwa [List.length_map,zym,rmap_len] at this
 have hr0:0 < r.l.length:=by
  have hv:=hq
  rw [voOk,jJ,decide_eq_true_eq] at hv;exact hv.2
 have hS:∀ st,zys w.l m.l (u.l.map (·.l)) st=zyB (Con.con f) (Con.con c) s a r.l st:=fun st=>by
  rw [zyB,if_pos hq,l1,l2,l3]
 refine Wk ?_
 refine zoe (ι:=Int × Hp) (fun i=>⟨[(12,true,.c (.v (.slice none 0 0))),(13,true,.c (.v (.bool false))),(14,true,.c (.p 3 0)),(16,true,.c (.v (.int .i64 i.1)))],[(3,.box 105 [.v w.val,.v m.val,.v u.val])],i.2,4⟩)
  (fun i=>max rd 0≤i.1∧i.1≤200000∧h1.le i.2∧zCt (Con.con f) (Con.con c) s a r.l rd=zCs (zyB (Con.con f) (Con.con c) s a r.l) (2881 - i.1).toNat i.1) (fun i=>(2881 - i.1).toNat) (max rd 0,h1) ⟨Int.le_refl _,by omega,Hp.le_refl _,rfl⟩ [0,1,2,3] ?_ ?_
 ·refine Evs ?_
  exact Gk
 rintro ⟨i,hk⟩ ⟨hi0,hi1,hle,hF⟩
 simp only at hi0 hi1 hle hF
 refine Wk ?_
 refine zc9 rfl (fun hd=>?_) (fun hd=>?_)
 ·have hd:=of_decide_eq_true hd
  refine Wk ?_
  refine zkj (zyA w m u i _ (ow.mono hle) (om.mono hle) (ou.mono hle) (by unfold I64;omega) (by omega) (by omega) (by omega) (by omega)) rfl ?_
  rintro v h2 le2 ⟨q,rfl,eq,okq⟩
  rw [hS] at eq ⊢
  obtain ⟨n,hn⟩:∃ n,(2881 - i).toNat=n+1:=⟨(2881 - i).toNat - 1,by omega⟩
  rw [hn,zCs,if_pos hd] at hF
  cases hs2:zyB (Con.con f) (Con.con c) s a r.l i with
  | some l =>
   rw [hs2] at hF eq
   refine Wk ?_
   refine zc9 rfl (fun hz2=>?_) (fun hz2=>?_)
   case refine_2=>cases hz2
   refine Wk ?_
   exact ⟨q,by rw [hF];rfl,by rw [hF];exact eq,okq⟩
  | none =>
   rw [hs2] at hF
   refine Wk ?_
   refine zc9 rfl (fun hz2=>?_) (fun hz2=>?_)
   case refine_1=>cases hz2
   refine Wk ?_
   have hw1:IntKind.i64.wrap (i+1)=i+1:=zjz (by omega)
   refine ⟨(i+1,h2),[0,1,2,3],⟨by omega,by omega,Hp.le_trans hle le2,by rw [hF,show (2881 - (i+1)).toNat=n by omega]⟩,by simp only;omega,?_⟩
   simp only [go_sem,jq,jj,jy,jv,jk,jx,hw1]
   exact Gk
 ·have hd:=of_decide_eq_false hd
  rw [show (2881 - i).toNat=0 by omega] at hF
  refine Wk ?_
  exact ⟨⟨none,0,[]⟩,by rw [hF];rfl,by rw [hF];rfl,zmo⟩
theorem zC7 (c:Sl U8) (h:Hp) (hc:c.Ok h):Ct jV 40 [c.val] h fun v h'=>∃ b,v=.pointer (some ⟨b,0,none⟩)∧h b=none∧Cu 151 c h' b:=by
 have hm:=hc.max
 refine zdn (fun A W=>by simp) Try.func40 rfl rfl (by simp) fun W0=>?_
 refine Wk ?_
 refine zde (ι:=Nat × Int) (fun i=>⟨[(0,true,.c (.v c.val)),(3,true,.c (.v (.int .i64 i.2))),(4,true,.c (.v (.int .i64 i.1)))],[],h,0⟩) (fun i=>i.1≤c.l.length) (fun i=>c.l.length - i.1) (0,IntKind.i64.wrap (1976+c.l.length)) (Nat.zero_le _) ?_ ?_
 ·refine Evs ?_
  repeat' first|exact rfl|exact trivial|assumption|decide|refine And.intro ?_ ?_
 rintro ⟨i,k⟩ hi
 simp only at hi
 refine Wk ?_
 refine zc9 rfl (fun hd=>?_) (fun hd=>?_)
 ·have hlt:i < c.l.length:=by
   simp at hd
   omega
  have hlti:(i:Int) < c.l.length:=by omega
  repeat' first|refine Wa ?_|(simp only [go_sem,jq,jj,jy,jv,jk,jx,zon hc hlt,hc.some hlt,hlt,hlti,jW,jY,and_self];try rfl)|refine Wb ?_|fail
  refine ⟨(i+1,zaE .and .i64 (IntKind.i64.wrap (IntKind.i64.wrap (IntKind.i64.wrap (k * 79)+IntKind.i64.wrap c.l[i].n)+7)) 1073741823),hlt,by simp only;omega,?_⟩
  refine Evs ?_
  repeat' first|exact zjB (zjA hlt (by omega))|exact rfl|exact trivial|assumption|decide|refine And.intro ?_ ?_
 refine zc6 ?_
 refine Evs ?_
 (first|refine zie rfl ?_|refine zc4 rfl ?_|(refine zc3 ?_;first|refine zie rfl ?_|refine zc4 rfl ?_));simp only [go_sem,jq,jj,jy,jv,jk,jx]
 refine zmE 0 rfl rfl fun g hg og=>?_
 refine Wk ?_
 exact ⟨g,rfl,hg,by rw [zor,zos hg];exact hc,0,k,Hp.ins_same,Int.le_refl _,by omega⟩
theorem zC8 {tc:TypeId} {h:Hp} {b:Nat} {c:Sl U8} {i k:Int} (hb:h b=some (.cells #[c.val,.int .i64 i,.int .i64 k] tc (0,0))):h.lds (some ⟨b,0,none⟩) 1=some [c.val]∧h.lds (some ⟨b,1,none⟩) 1=some [.int .i64 i]∧h.lds (some ⟨b,2,none⟩) 1=some [.int .i64 k] :=
 ⟨zmG (xs:=[c.val,.int .i64 i,.int .i64 k]) hb rfl (Nat.le_of_ble_eq_true rfl),zmG (xs:=[c.val,.int .i64 i,.int .i64 k]) hb rfl (Nat.le_of_ble_eq_true rfl),zmG (xs:=[c.val,.int .i64 i,.int .i64 k]) hb rfl (Nat.le_of_ble_eq_true rfl)⟩
theorem zC9 (c:Sl U8) (h:Hp) (b:Nat) (H:Cu 151 c h b):Cw jV 49 [.pointer (some ⟨b,0,none⟩)] h (fun k=>k=b) fun v h'=>∃ n:Int,(v=.int .i64 n∧0≤n∧n≤255)∧Cg 151 c h b h':=by
 have H0:=H
 obtain ⟨hc,i,k,hb,hi0,hi1⟩:=H0
 have hcm:=hc.max
 obtain ⟨q0,q1,q2⟩:=zC8 hb
 refine zlh (fun A W=>by simp) Try.func49 rfl rfl (by simp)  (fun q hq=>by rw [hq];exact H.ne) fun W0 hW=>?_
 have own:W0.own b:=hW b rfl
 (first|refine zie rfl ?_|refine zc4 rfl ?_|(refine zc3 ?_;first|refine zie rfl ?_|refine zc4 rfl ?_));simp only [go_sem,jq,jj,jy,jv,jk,jx]
 first|refine zmR [0,0,0,0,0,0,0,0,0,1] rfl ?_|refine zmQ [0,0,0,0,0,0,0,0,0,1] rfl ?_|(refine zc3 ?_;first|refine zmR [0,0,0,0,0,0,0,0,0,1] rfl ?_|refine zmQ [0,0,0,0,0,0,0,0,0,1] rfl ?_)
 simp only [go_sem,jq,jj,jy,jv,jk,jx,q2,true_or,true_and]
 refine zow (xs:=[c.val,.int .i64 i,.int .i64 k]) (xs':=[c.val,.int .i64 i,.int .i64 (IntKind.i64.wrap (IntKind.i64.wrap (k * 6364136223846793005)+1442695040888963407))]) (by simp only [go_sem]) (by simp only [go_sem]) rfl rfl hb (.inr own) (Nat.le_of_ble_eq_true rfl) rfl ?_
 generalize IntKind.i64.wrap (IntKind.i64.wrap (k * 6364136223846793005)+1442695040888963407)=k1
 have hb1:(h.ins b (.cells #[c.val,.int .i64 i,.int .i64 k1] 151 (0,0))) b=some (.cells #[c.val,.int .i64 i,.int .i64 k1] 151 (0,0)):=Hp.ins_same
 have hd1:(h.ins b (.cells #[c.val,.int .i64 i,.int .i64 k1] 151 (0,0))).del b=h.del b:=zor
 generalize h.ins b (.cells #[c.val,.int .i64 i,.int .i64 k1] 151 (0,0))=h1 at hb1 hd1 ⊢
 have hc1:c.Ok h1:=Sl.Ok.mono zoq (by rw [hd1];exact hc)
 obtain ⟨q0,q1,q2⟩:=zC8 hb1
 refine Wk ?_
 refine zi8 rfl (by kernel_rfl) ?_
 simp only [go_sem,jq,jj,jy,jv,jk,jx,q0,q1,q2,true_or,true_and,and_true,implies_true,and_self]
 refine ⟨by decide,by decide,?_⟩
 generalize hx:zaE BinOp.and IntKind.i64 (zaE BinOp.xor IntKind.i64 (k1.fdiv (2 ^ min (Int.toNat 33) 64)) (k1.fdiv (2 ^ min (Int.toNat 45) 64))) 255=x
 have hx0:0≤x∧x≤255:=by rw [← hx];exact zop _
 refine Wk ?_
 refine zi8 rfl (by kernel_rfl) ?_
 simp only [go_sem,jq,jj,jy,jv,jk,jx,q0,q1,q2,true_or,true_and,and_true,implies_true,and_self]
 try (refine zc3 ?_)
 refine zc9 rfl (fun hd=>?_) (fun hd=>?_)
 ·have hd:=of_decide_eq_true hd
  obtain ⟨j,rfl⟩:∃ j:Nat,i=j:=⟨i.toNat,by omega⟩
  have hj:j < c.l.length:=by omega
  try (refine zc3 ?_)
  refine zi8 rfl (by kernel_rfl) ?_
  simp only [go_sem,jq,jj,jy,jv,jk,jx,q0,q1,q2,zon hc1 hj,hc1.some hj,hj,hd,jW,jY,true_or,true_and,and_true,implies_true,and_self]
  generalize hy:zaE BinOp.and IntKind.i64 (IntKind.i64.wrap (x+IntKind.i64.wrap c.l[j].n)) 255=y
  have hy0:0≤y∧y≤255:=by rw [← hy];exact zop _
  first|refine zmR [0,0,0,0,0,0,0,0,1] rfl ?_|refine zmQ [0,0,0,0,0,0,0,0,1] rfl ?_|(refine zc3 ?_;first|refine zmR [0,0,0,0,0,0,0,0,1] rfl ?_|refine zmQ [0,0,0,0,0,0,0,0,1] rfl ?_)
  simp only [go_sem,jq,jj,jy,jv,jk,jx,q1,true_or,true_and]
  refine zow (xs:=[c.val,.int .i64 j,.int .i64 k1]) (xs':=[c.val,.int .i64 (IntKind.i64.wrap (j+1)),.int .i64 k1]) (by simp only [go_sem]) (by simp only [go_sem]) rfl rfl hb1 (.inr own) (Nat.le_of_ble_eq_true rfl) rfl ?_
  refine Wk ?_
  have hdi:(h1.ins b (.cells [c.val,.int .i64 (IntKind.i64.wrap ((j:Int)+1)),.int .i64 k1].toArray 151 (0,0))).del b=h.del b:=by rw [zor,hd1]
  exact ⟨y,⟨rfl,hy0⟩,⟨by rw [hdi];exact hc,_,k1,Hp.ins_same,by rw [zjz (by omega)];omega,by rw [zjz (by omega)];omega⟩,by rw [hdi];exact Hp.le_refl _⟩
 ·refine Wk ?_
  exact ⟨x,⟨rfl,hx0⟩,⟨by rw [hd1];exact hc,_,k1,hb1,hi0,hi1⟩,by rw [hd1];exact Hp.le_refl _⟩
theorem zDa {n m:Int} (hn:0≤n) (hm:0 < m):0≤Int.tmod n m∧Int.tmod n m < m:=⟨Int.tmod_nonneg _ hn,Int.tmod_lt_of_pos _ hm⟩
theorem zDb (c:Sl U8) (n:Int) (h:Hp) (b:Nat) (H:Cu 151 c h b) (hn:0 < n):Cw jV 43 [.pointer (some ⟨b,0,none⟩),.int .i64 n] h (fun k=>k=b) fun v h'=>∃ k:Int,(v=.int .i64 k∧0≤k∧k < n)∧Cg 151 c h b h':=by
 have hn0:n ≠ 0:=by omega
 refine zlh (fun A W=>by simp) Try.func43 rfl rfl (by simp)  (fun q hq=>by rw [hq];exact H.ne) fun W0 hW=>?_
 have own:W0.own b:=hW b rfl
 (first|refine zie rfl ?_|refine zc4 rfl ?_|(refine zc3 ?_;first|refine zie rfl ?_|refine zc4 rfl ?_));simp only [go_sem,jq,jj,jy,jv,jk,jx]
 (first|refine zie rfl ?_|refine zc4 rfl ?_|(refine zc3 ?_;first|refine zie rfl ?_|refine zc4 rfl ?_));simp only [go_sem,jq,jj,jy,jv,jk,jx]
 try (refine zc3 ?_)
 refine zc9 rfl (fun hq=>?_) (fun hq=>?_)
 ·have:=of_decide_eq_true hq;omega
 refine zc5 ?_
 refine Evs ?_
 (first|refine zie rfl ?_|refine zc4 rfl ?_|(refine zc3 ?_;first|refine zie rfl ?_|refine zc4 rfl ?_));simp only [go_sem,jq,jj,jy,jv,jk,jx]
 try (refine zc3 ?_)
 refine zc9 rfl (fun hq=>?_) (fun hq=>?_)
 ·first|refine zmR [0,1] rfl ?_|refine zmQ [0,1] rfl ?_|(refine zc3 ?_;first|refine zmR [0,1] rfl ?_|refine zmQ [0,1] rfl ?_)
  refine Evs ?_
  refine zli (zC9 c _ b H) rfl (fun q hq=>⟨by rw [hq];exact H.ne,.inr (hq ▸ own)⟩) ?_
  rintro v h1 - ⟨k1,⟨rfl,a1,b1⟩,G1⟩
  have C1:=G1.1
  refine Evs ?_
  have hk:=zDa a1 hn
  repeat' first|refine Wa ?_|(simp only [go_sem,jq,jj,jy,jv,jk,jx,hn0];try rfl)|refine Wb ?_|fail
  exact ⟨_,⟨rfl,hk⟩,G1⟩
 refine zc5 ?_
 refine Evs ?_
 first|refine zmR [0,1] rfl ?_|refine zmQ [0,1] rfl ?_|(refine zc3 ?_;first|refine zmR [0,1] rfl ?_|refine zmQ [0,1] rfl ?_)
 refine Evs ?_
 refine zli (zC9 c _ b H) rfl (fun q hq=>⟨by rw [hq];exact H.ne,.inr (hq ▸ own)⟩) ?_
 rintro v h1 - ⟨k1,⟨rfl,a1,b1⟩,G1⟩
 have C1:=G1.1
 refine Evs ?_
 first|refine zmR [0,1] rfl ?_|refine zmQ [0,1] rfl ?_|(refine zc3 ?_;first|refine zmR [0,1] rfl ?_|refine zmQ [0,1] rfl ?_)
 refine Evs ?_
 refine zli (zC9 c _ b C1) rfl (fun q hq=>⟨by rw [hq];exact C1.ne,.inr (hq ▸ own)⟩) ?_
 rintro v h2 - ⟨k2,⟨rfl,a2,b2⟩,G2⟩
 have C2:=G2.1
 refine Evs ?_
 first|refine zmR [0,1] rfl ?_|refine zmQ [0,1] rfl ?_|(refine zc3 ?_;first|refine zmR [0,1] rfl ?_|refine zmQ [0,1] rfl ?_)
 refine Evs ?_
 refine zli (zC9 c _ b C2) rfl (fun q hq=>⟨by rw [hq];exact C2.ne,.inr (hq ▸ own)⟩) ?_
 rintro v h3 - ⟨k3,⟨rfl,a3,b3⟩,G3⟩
 have C3:=G3.1
 refine Evs ?_
 first|refine zmR [0,1] rfl ?_|refine zmQ [0,1] rfl ?_|(refine zc3 ?_;first|refine zmR [0,1] rfl ?_|refine zmQ [0,1] rfl ?_)
 refine Evs ?_
 refine zli (zC9 c _ b C3) rfl (fun q hq=>⟨by rw [hq];exact C3.ne,.inr (hq ▸ own)⟩) ?_
 rintro v h4 - ⟨k4,⟨rfl,a4,b4⟩,G4⟩
 have C4:=G4.1
 refine Evs ?_
 have hw:IntKind.i64.wrap (IntKind.i64.wrap (IntKind.i64.wrap (IntKind.i64.wrap (k1 * 16777216)+IntKind.i64.wrap (k2 * 65536))+IntKind.i64.wrap (k3 * 256))+k4)=k1 * 16777216+k2 * 65536+k3 * 256+k4:=by
  rw [zjz (n:=k1 * 16777216) (by omega),zjz (n:=k2 * 65536) (by omega),zjz (n:=k3 * 256) (by omega),zjz (n:=k1 * 16777216+k2 * 65536) (by omega),zjz (n:=k1 * 16777216+k2 * 65536+k3 * 256) (by omega),zjz (by omega)]
 have hk:=zDa (n:=k1 * 16777216+k2 * 65536+k3 * 256+k4) (by omega) hn
 repeat' first|refine Wa ?_|(simp only [go_sem,jq,jj,jy,jv,jk,jx,hn0,hw];try rfl)|refine Wb ?_|fail
 exact ⟨_,⟨rfl,hk⟩,((G1.trans G2).trans G3).trans G4⟩
theorem zDc (c:Sl U8) (n:Int) (h:Hp) (b:Nat) (H:Cu 151 c h b) (hn:0 < n):Cw jV 87 [.pointer (some ⟨b,0,none⟩),.int .i64 n] h (fun k=>k=b) fun v h'=>∃ k:Bool,v=.bool k∧Cg 151 c h b h':=by
 refine zlh (fun A W=>by simp) Try.func87 rfl rfl (by simp)  (fun q hq=>by rw [hq];exact H.ne) fun W0 hW=>?_
 have own:W0.own b:=hW b rfl
 (first|refine zie rfl ?_|refine zc4 rfl ?_|(refine zc3 ?_;first|refine zie rfl ?_|refine zc4 rfl ?_));simp only [go_sem,jq,jj,jy,jv,jk,jx]
 first|refine zmR [0,0,1] rfl ?_|refine zmQ [0,0,1] rfl ?_|(refine zc3 ?_;first|refine zmR [0,0,1] rfl ?_|refine zmQ [0,0,1] rfl ?_)
 refine Evs ?_
 refine zli (zDb c n _ b H hn) rfl (fun q hq=>⟨by rw [hq];exact H.ne,.inr (hq ▸ own)⟩) ?_
 rintro v h1 - ⟨k1,⟨rfl,a1,b1⟩,G1⟩
 have C1:=G1.1
 refine Evs ?_
 refine Wk ?_
 exact ⟨_,rfl,G1⟩
theorem zDd (c:Sl U8) (s:Sl Int) (h:Hp) (b:Nat) (H:Cu 151 c h b) (hs:s.Ok (h.del b)) (hn:0 < s.l.length):Cw jV 128 [.pointer (some ⟨b,0,none⟩),s.val] h (fun k=>k=b) fun v h'=>∃ k:Int,(v=.int .i64 k∧k ∈ s.l)∧Cg 151 c h b h':=by
 refine zlh (fun A W=>by simp) Try.func128 rfl rfl (by simp)  (fun q hq=>by rw [hq];exact H.ne) fun W0 hW=>?_
 have own:W0.own b:=hW b rfl
 (first|refine zie rfl ?_|refine zc4 rfl ?_|(refine zc3 ?_;first|refine zie rfl ?_|refine zc4 rfl ?_));simp only [go_sem,jq,jj,jy,jv,jk,jx]
 first|refine zmR [0,0,0,0,1] rfl ?_|refine zmQ [0,0,0,0,1] rfl ?_|(refine zc3 ?_;first|refine zmR [0,0,0,0,1] rfl ?_|refine zmQ [0,0,0,0,1] rfl ?_)
 refine Evs ?_
 refine zli (zDb c (s.l.length:Int) _ b H (by omega)) rfl (fun q hq=>⟨by rw [hq];exact H.ne,.inr (hq ▸ own)⟩) ?_
 rintro v h1 - ⟨k1,⟨rfl,a1,b1⟩,G1⟩
 have C1:=G1.1
 refine Evs ?_
 obtain ⟨j,rfl⟩:∃ j:Nat,k1=j:=⟨k1.toNat,by omega⟩
 have hs1:=(hs.mono G1.2).mono zoq
 have hj:j < s.l.length:=by omega
 repeat' first|refine Wa ?_|(simp only [go_sem,jq,jj,jy,jv,jk,jx,zkv hs1 hj,hs1.some hj,hj,b1,jW,jY,and_self];try rfl)|refine Wb ?_|fail
 exact ⟨_,⟨rfl,List.getElem_mem hj⟩,G1⟩
set_option maxRecDepth 30000 in
theorem zDe (c:Sl U8) (h:Hp) (b:Nat) (H:Cu 151 c h b):Cw jV 120 [.pointer (some ⟨b,0,none⟩)] h (fun k=>k=b) fun v h'=>∃ p:DPart,(v=p.v∧zCy p)∧Cg 151 c h b h':=by
 refine zlh (fun A W=>by simp) Try.func120 rfl rfl (by simp)  (fun q hq=>by rw [hq];exact H.ne) fun W0 hW=>?_
 have own:W0.own b:=hW b rfl
 (first|refine zie rfl ?_|refine zc4 rfl ?_|(refine zc3 ?_;first|refine zie rfl ?_|refine zc4 rfl ?_));simp only [go_sem,jq,jj,jy,jv,jk,jx]
 first|refine zmR [0,1,0,2,1] rfl ?_|refine zmQ [0,1,0,2,1] rfl ?_|(refine zc3 ?_;first|refine zmR [0,1,0,2,1] rfl ?_|refine zmQ [0,1,0,2,1] rfl ?_)
 refine Evs ?_
 refine zli (zDb c 300 _ b H (by decide)) rfl (fun q hq=>⟨by rw [hq];exact H.ne,.inr (hq ▸ own)⟩) ?_
 rintro v h1 - ⟨k1,⟨rfl,a1,b1⟩,G1⟩
 have C1:=G1.1
 refine Evs ?_
 refine fun ad cap h2 P=>?_
 try simp only [go_sem,jq,jj,jy,jv,jk,jx]
 have P':Pub h1 3 (Enc.size Int) ([744,720,1440,372,240]:List Int).length (([744,720,1440,372,240]:List Int).flatMap Enc.enc) ad cap h2:=P
 obtain ⟨R2,f2,_⟩:=P'.row
 have C2:=C1.grow P.le
 have s2:(Sl.mk ad cap [744,720,1440,372,240]:Sl Int).Ok (h2.del b):=(zou R2 f2 C1.ne).ok (by decide) fun x hx=>by
  show I64 x
  simp only [List.mem_cons,List.not_mem_nil,or_false] at hx
  unfold I64
  omega
 refine zli (zDd c (Sl.mk ad cap [744,720,1440,372,240]) _ b C2 s2 (Nat.succ_pos _)) rfl (fun q hq=>⟨by rw [hq];exact C2.ne,.inr (hq ▸ own)⟩) ?_
 rintro v h3 - ⟨k3,⟨rfl,m3⟩,G3⟩
 have C3:=G3.1
 refine Evs ?_
 have hp:0 < k3:=by
  simp only [List.mem_cons,List.not_mem_nil,or_false] at m3
  omega
 first|refine zmR [0,0,0,1] rfl ?_|refine zmQ [0,0,0,1] rfl ?_|(refine zc3 ?_;first|refine zmR [0,0,0,1] rfl ?_|refine zmQ [0,0,0,1] rfl ?_)
 refine Evs ?_
 refine zli (zDb c k3 _ b C3 hp) rfl (fun q hq=>⟨by rw [hq];exact C3.ne,.inr (hq ▸ own)⟩) ?_
 rintro v h4 - ⟨k4,⟨rfl,a4,b4⟩,G4⟩
 have C4:=G4.1
 refine Evs ?_
 refine Wk ?_
 exact ⟨⟨k1,k3,k4⟩,⟨rfl,a1,b1,m3,a4,b4⟩,((G1.grow P.le).trans G3).trans G4⟩
theorem zDf {h:Hp} {p:DPart} (H:zCy p):Enc.ok h p:=by
 obtain ⟨h1,h2,h3,h4,h5⟩:=H
 simp only [List.mem_cons,List.not_mem_nil,or_false] at h3
 refine ⟨?_,?_,?_⟩ <;> unfold I64 <;> omega
set_option maxRecDepth 30000 in
theorem zDg (c:Sl U8) (h:Hp) (b:Nat) (H:Cu 151 c h b):Cw jV 111 [.pointer (some ⟨b,0,none⟩)] h (fun k=>k=b) fun v h'=>∃ t:DTide,(v=t.v∧zCz t∧Enc.ok (h'.del b) t)∧Cg 151 c h b h':=by
 refine zlh (fun A W=>by simp) Try.func111 rfl rfl (by simp)  (fun q hq=>by rw [hq];exact H.ne) fun W0 hW=>?_
 have own:W0.own b:=hW b rfl
 (first|refine zie rfl ?_|refine zc4 rfl ?_|(refine zc3 ?_;first|refine zie rfl ?_|refine zc4 rfl ?_));simp only [go_sem,jq,jj,jy,jv,jk,jx]
 first|refine zmR [0,1] rfl ?_|refine zmQ [0,1] rfl ?_|(refine zc3 ?_;first|refine zmR [0,1] rfl ?_|refine zmQ [0,1] rfl ?_)
 refine Evs ?_
 refine zli (zDb c 300 _ b H (by decide)) rfl (fun q hq=>⟨by rw [hq];exact H.ne,.inr (hq ▸ own)⟩) ?_
 rintro v h1 - ⟨k1,⟨rfl,a1,b1⟩,G1⟩
 have C1:=G1.1
 refine Evs ?_
 first|refine zmR [0,1] rfl ?_|refine zmQ [0,1] rfl ?_|(refine zc3 ?_;first|refine zmR [0,1] rfl ?_|refine zmQ [0,1] rfl ?_)
 refine Evs ?_
 refine zli (zDb c 2 _ b C1 (by decide)) rfl (fun q hq=>⟨by rw [hq];exact C1.ne,.inr (hq ▸ own)⟩) ?_
 rintro v h2 - ⟨k2,⟨rfl,a2,b2⟩,G2⟩
 have C2:=G2.1
 refine Evs ?_
 obtain ⟨n0,hn0⟩:∃ n0:Nat,IntKind.i64.wrap (1+k2)=(n0:Int)∧1≤n0∧n0≤2:=⟨(1+k2).toNat,by rw [zjz (by omega)];omega⟩
 rw [hn0.1]
 refine zoj 1 [.v (.int .i64 k1)] [] 188 3 rfl ?_
 refine Evs ?_
 try (refine zc3 ?_)
 refine zc8 ?_
 refine zoe (ι:=List DPart × Nat × Hp) (fun i=>⟨[(0,true,.c (.v (.pointer (some ⟨b,0,none⟩)))),(2,true,.c (.p 0 0)),(3,true,.c (.p 1 0)),(4,true,.c (.v (.int .i64 i.2.1)))],[(0,.box 25 [.v (.int .i64 0),.v (.slice none 0 0)]),(1,.box 25 [.v (.int .i64 k1),.s 2]),(2,.row 188 3 i.1.length (i.1.flatMap Enc.enc))],i.2.2,3⟩)
  (fun i=>i.1.length+i.2.1=n0∧(∀ p ∈ i.1,zCy p)∧Cg 151 c h b i.2.2) (fun i=>i.2.1) ([],n0,h2) ⟨Nat.zero_add _,(fun p hp=>by cases hp),G1.trans G2⟩ [0,1,2] ?_ ?_
 ·refine Evs ?_
  repeat' first|exact rfl|exact trivial|assumption|decide|refine And.intro ?_ ?_
 rintro ⟨ps,n,hk⟩ ⟨hl,hps,Gk⟩
 simp only at hl hps Gk
 have Ck:=Gk.1
 refine Wk ?_
 refine zc9 rfl (fun hd=>?_) (fun hd=>?_)
 ·have hlt:0 < n:=by have:=of_decide_eq_true hd;omega
  refine Wk ?_
  refine znv rfl ?_
  refine U_t [0,2,1] rfl ?_
  refine Evs ?_
  refine U_1 3 1 [1,0] rfl rfl ?_
  refine Evs ?_
  refine zli (zDe c _ b Ck) rfl (fun q hq=>⟨by rw [hq];exact Ck.ne,.inr (hq ▸ own)⟩) ?_
  rintro v h9 - ⟨p,⟨rfl,gp⟩,G9⟩
  have C9:=G9.1
  refine Evs ?_
  refine U_1 4 0 [1,0] rfl rfl ?_
  refine Evs ?_
  refine U_1 5 0 [] rfl rfl ?_
  refine Evs ?_
  try simp only [go_sem,jq,jj,jy,jv,jk,jx]
  refine ⟨by simp only [maxLen];omega,by omega,?_⟩
  try simp only [go_sem,jq,jj,jy,jv,jk,jx]
  refine U_t [6] rfl ?_
  refine Evs ?_
  refine U_1 7 0 [] rfl rfl ?_
  refine Evs ?_
  refine U_d ?_
  refine Wk ?_
  refine ⟨(ps ++ [p],n - 1,h9),[0,1,4],⟨(by show (ps ++ [p]).length+(n - 1)=n0;rw [List.length_append,List.length_singleton];omega),fun q hq=>?_,Gk.trans G9⟩,(by show n - 1 < n;omega),?_⟩
  ·rcases List.mem_append.1 hq with hq|hq
   ·exact hps q hq
   ·rw [List.mem_singleton.1 hq];exact gp
  have hw:IntKind.i64.wrap ((n:Int) - 1)=((n - 1:Nat):Int):=by rw [zjz (by omega)];omega
  simp only [go_sem,jq,jj,jy,jv,jk,jx,hw,List.length_append,List.flatMap_append]
  repeat' first|exact rfl|exact trivial|assumption|decide|refine And.intro ?_ ?_
 have hn:n=0:=by have:=of_decide_eq_false hd;omega
 refine zc6 ?_
 refine Evs ?_
 refine znD 2 ps rfl rfl rfl rfl fun s h9 e9 R9 f9 le9 _=>?_
 refine Wk ?_
 have G9:=Gk.grow le9
 have hd9:=(zou R9 f9 Ck.ne).ok (by decide) fun x hx=>zDf (hps x (by rw [← e9];exact hx))
 exact ⟨⟨k1,s⟩,⟨rfl,⟨⟨a1,b1⟩,by rw [e9];omega,by rw [e9];exact hps⟩,⟨(by show I64 k1;unfold I64;omega),hd9⟩⟩,G9⟩
structure GSt (l:List DSurge) (t:Int):Prop where
 ok:∀ i,i < l.length→zuX l i=true
 z:l=[]→t=0
 nz:l ≠ []→(l.getD 0 dS).src=0
 lt:∀ s ∈ l,s.src < t
 t0:0≤t
 t1:t≤799 * l.length
theorem zDh {l:List DSurge} {t lo hi j:Int} (H:GSt l t) (hl:l.length≤2) (h1:-40≤lo∧lo < 20) (h2:lo≤hi∧hi < lo+60) (h3:0≤j∧j < 700):GSt (l ++ [⟨t,lo,hi⟩]) (t+100+j):=by
 obtain ⟨g1,g2,g3,g4,g5,g6⟩:=H
 have ea:∀ i,i < l.length→(l ++ [(⟨t,lo,hi⟩:DSurge)]).getD i dS=l.getD i dS:=fun i hi=>by rw [List.getD_eq_getElem?_getD,List.getElem?_append_left hi,← List.getD_eq_getElem?_getD]
 have eb:(l ++ [(⟨t,lo,hi⟩:DSurge)]).getD l.length dS=⟨t,lo,hi⟩:=by simp only [List.getD_eq_getElem?_getD,List.getElem?_concat_length,Option.getD_some]
 have ln:(l ++ [(⟨t,lo,hi⟩:DSurge)]).length=l.length+1:=by rw [List.length_append];rfl
 refine ⟨fun i hi9=>?_,fun e=>by simp at e,fun _=>?_,fun s hs=>?_,by omega,by rw [ln];push_cast;omega⟩
 ·rw [ln] at hi9
  rcases Nat.lt_or_ge i l.length with hi|hi
  ·have:=g1 i hi
   rw [zuX] at this ⊢
   rw [ea i hi,ea (i - 1) (by omega)]
   exact this
  ·obtain rfl:i=l.length:=by omega
   rw [zuX,eb,zuK]
   simp only [In,jJ,decide_eq_true_eq,Bool.not_eq_true',Bool.and_eq_false_iff,decide_eq_false_iff_not]
   refine ⟨by omega,?_⟩
   rcases Nat.eq_zero_or_pos l.length with h0|h0
   ·exact .inl (by omega)
   ·refine .inr ?_
    rw [ea _ (by omega)]
    have:=g4 (l.getD (l.length - 1) dS) (by rw [List.getD_eq_getElem?_getD,List.getElem?_eq_getElem (by omega)];exact List.getElem_mem _)
    omega
 ·cases l with
  | nil=>show t=0;exact g2 rfl
  | cons y l=>rw [ea 0 (Nat.succ_pos _)];exact g3 (by simp)
 ·rcases List.mem_append.1 hs with hs|hs
  ·have:=g4 s hs;omega
  ·rw [List.mem_singleton.1 hs];show t < _;omega
theorem zDi {l:List DSurge} {t:Int} (H:GSt l t) {h:Hp}:∀ s ∈ l,Enc.ok h s:=fun s hs=>by
 obtain ⟨i,hi,rfl⟩:=List.getElem_of_mem hs
 have h1:=H.ok i hi
 rw [zuX,jJ,List.getD_eq_getElem?_getD,List.getElem?_eq_getElem hi,zuK] at h1
 simp only [In,jJ,decide_eq_true_eq,Option.getD_some] at h1
 refine ⟨?_,?_,?_⟩ <;> unfold I64 <;> omega
set_option maxRecDepth 30000 in
theorem zDj (c:Sl U8) (h:Hp) (b:Nat) (H:Cu 151 c h b):Cw jV 82 [.pointer (some ⟨b,0,none⟩)] h (fun k=>k=b) fun v h'=>∃ f:DForecast,(v=f.v∧zCz f.tide∧GSur f.surges.l∧Enc.ok (h'.del b) f)∧Cg 151 c h b h':=by
 refine zlh (fun A W=>by simp) Try.func82 rfl rfl (by simp)  (fun q hq=>by rw [hq];exact H.ne) fun W0 hW=>?_
 have own:W0.own b:=hW b rfl
 (first|refine zie rfl ?_|refine zc4 rfl ?_|(refine zc3 ?_;first|refine zie rfl ?_|refine zc4 rfl ?_));simp only [go_sem,jq,jj,jy,jv,jk,jx]
 first|refine zmR [0,1] rfl ?_|refine zmQ [0,1] rfl ?_|(refine zc3 ?_;first|refine zmR [0,1] rfl ?_|refine zmQ [0,1] rfl ?_)
 refine Evs ?_
 refine zli (zDg c _ b H) rfl (fun q hq=>⟨by rw [hq];exact H.ne,.inr (hq ▸ own)⟩) ?_
 rintro v h1 - ⟨t,⟨rfl,gt,okt⟩,G1⟩
 have C1:=G1.1
 refine Evs ?_
 (first|refine zie rfl ?_|refine zc4 rfl ?_|(refine zc3 ?_;first|refine zie rfl ?_|refine zc4 rfl ?_));simp only [go_sem,jq,jj,jy,jv,jk,jx]
 first|refine zmR [0,1] rfl ?_|refine zmQ [0,1] rfl ?_|(refine zc3 ?_;first|refine zmR [0,1] rfl ?_|refine zmQ [0,1] rfl ?_)
 refine Evs ?_
 refine zli (zDb c 3 _ b C1 (by decide)) rfl (fun q hq=>⟨by rw [hq];exact C1.ne,.inr (hq ▸ own)⟩) ?_
 rintro v h2 - ⟨k2,⟨rfl,a2,b2⟩,G2⟩
 have C2:=G2.1
 refine Evs ?_
 obtain ⟨n0,hn0⟩:∃ n0:Nat,IntKind.i64.wrap (1+k2)=(n0:Int)∧1≤n0∧n0≤3:=⟨(1+k2).toNat,by rw [zjz (by omega)];omega⟩
 rw [hn0.1]
 refine zoj 1 [.v (.int .i64 t.mean),.v t.parts.val] [] 134 3 rfl ?_
 refine Evs ?_
 try (refine zc3 ?_)
 refine zc8 ?_
 refine zoe (ι:=List DSurge × Nat × Int × Hp) (fun i=>⟨[(0,true,.c (.v (.pointer (some ⟨b,0,none⟩)))),(2,true,.c (.p 0 0)),(3,true,.c (.p 1 0)),(4,true,.c (.v (.int .i64 i.2.2.1))),(5,true,.c (.v (.int .i64 i.2.1)))],[(0,.box 28 [.v (.int .i64 0),.v (.slice none 0 0),.v (.slice none 0 0)]),(1,.box 28 [.v (.int .i64 t.mean),.v t.parts.val,.s 2]),(2,.row 134 3 i.1.length (i.1.flatMap Enc.enc))],i.2.2.2,3⟩)
  (fun i=>i.1.length+i.2.1=n0∧GSt i.1 i.2.2.1∧Cg 151 c h b i.2.2.2∧(h1.del b).le (i.2.2.2.del b)) (fun i=>i.2.1) ([],n0,0,h2) ⟨Nat.zero_add _,⟨fun i hi=>absurd hi (Nat.not_lt_zero i),fun _=>rfl,fun e=>(e rfl).elim,fun s hs=>(by cases hs),Int.le_refl _,Int.le_refl _⟩,G1.trans G2,G2.2⟩ [0,1,2] ?_ ?_
 ·refine Evs ?_
  repeat' first|exact rfl|exact trivial|assumption|decide|refine And.intro ?_ ?_
 rintro ⟨ls,n,t4,hk⟩ ⟨hl,hg,Gk,lek⟩
 simp only at hl hg Gk lek
 have Ck:=Gk.1
 have ht0:=hg.t0
 have ht1:=hg.t1
 have hl3:ls.length≤3:=by omega
 refine Wk ?_
 refine zc9 rfl (fun hd=>?_) (fun hd=>?_)
 ·have hlt:0 < n:=by have:=of_decide_eq_true hd;omega
  repeat' first|refine zc8 ?_|(refine zc5 ?_;simp only [go_sem,jq,jj,jy,jv,jk,jx])|refine zc3 ?_
  first|refine zmR [0,1] rfl ?_|refine zmQ [0,1] rfl ?_|(refine zc3 ?_;first|refine zmR [0,1] rfl ?_|refine zmQ [0,1] rfl ?_)
  refine Evs ?_
  refine zli (zDb c 60 _ b Ck (by decide)) rfl (fun q hq=>⟨by rw [hq];exact Ck.ne,.inr (hq ▸ own)⟩) ?_
  rintro v h8 - ⟨k8,⟨rfl,a8,b8⟩,G8⟩
  have C8:=G8.1
  refine Evs ?_
  rw [zjz (n:=k8 - 40) (by omega)]
  obtain ⟨wlow,hwl⟩:∃ wlow:Int,k8 - 40=wlow:=⟨_,rfl⟩
  rw [hwl]
  repeat' first|refine zc8 ?_|(refine zc5 ?_;simp only [go_sem,jq,jj,jy,jv,jk,jx])|refine zc3 ?_
  refine znv rfl ?_
  refine U_t [0,2,3,4,5,1] rfl ?_
  refine Evs ?_
  refine U_1 6 1 [1,0] rfl rfl ?_
  refine Evs ?_
  refine zli (zDb c 60 _ b C8 (by decide)) rfl (fun q hq=>⟨by rw [hq];exact C8.ne,.inr (hq ▸ own)⟩) ?_
  rintro v h9 - ⟨k9,⟨rfl,a9,b9⟩,G9⟩
  have C9:=G9.1
  refine Evs ?_
  refine U_t [7] rfl ?_
  refine Evs ?_
  refine U_1 8 0 [1,0] rfl rfl ?_
  refine Evs ?_
  refine U_1 9 0 [1,0] rfl rfl ?_
  refine Evs ?_
  refine U_1 10 0 [] rfl rfl ?_
  refine Evs ?_
  try simp only [go_sem,jq,jj,jy,jv,jk,jx]
  refine ⟨by simp only [maxLen];omega,by omega,?_⟩
  try simp only [go_sem,jq,jj,jy,jv,jk,jx]
  refine U_t [11] rfl ?_
  refine Evs ?_
  refine U_1 12 0 [] rfl rfl ?_
  refine Evs ?_
  refine U_d ?_
  rw [zjz (n:=wlow+k9) (by omega)]
  repeat' first|refine zc8 ?_|(refine zc5 ?_;simp only [go_sem,jq,jj,jy,jv,jk,jx])|refine zc3 ?_
  first|refine zmR [0,0,0,1] rfl ?_|refine zmQ [0,0,0,1] rfl ?_|(refine zc3 ?_;first|refine zmR [0,0,0,1] rfl ?_|refine zmQ [0,0,0,1] rfl ?_)
  refine Evs ?_
  refine zli (zDb c 700 _ b C9 (by decide)) rfl (fun q hq=>⟨by rw [hq];exact C9.ne,.inr (hq ▸ own)⟩) ?_
  rintro v h10 - ⟨k10,⟨rfl,a10,b10⟩,G10⟩
  have C10:=G10.1
  refine Evs ?_
  rw [zjz (n:=t4+100) (by omega),zjz (n:=t4+100+k10) (by omega)]
  repeat' first|refine zc8 ?_|(refine zc5 ?_;simp only [go_sem,jq,jj,jy,jv,jk,jx])|refine zc3 ?_
  (first|refine zie rfl ?_|refine zc4 rfl ?_|(refine zc3 ?_;first|refine zie rfl ?_|refine zc4 rfl ?_));simp only [go_sem,jq,jj,jy,jv,jk,jx]
  have hw:IntKind.i64.wrap ((n:Int) - 1)=((n - 1:Nat):Int):=by rw [zjz (by omega)];omega
  refine ⟨(ls ++ [⟨t4,wlow,wlow+k9⟩],n - 1,t4+100+k10,h10),[0,1,4],⟨?_,?_,?_,?_⟩,(by show n - 1 < n;omega),?_⟩
  ·show (ls ++ [_]).length+(n - 1)=n0
   rw [List.length_append,List.length_singleton];omega
  ·exact zDh hg (by omega) (by omega) (by omega) (by omega)
  ·exact ((Gk.trans G8).trans G9).trans G10
  ·exact Hp.le_trans (Hp.le_trans (Hp.le_trans lek G8.2) G9.2) G10.2
  simp only [go_sem,jq,jj,jy,jv,jk,jx,hw,List.length_append,List.flatMap_append]
  repeat' first|exact rfl|exact trivial|assumption|decide|refine And.intro ?_ ?_
 have hn:n=0:=by have:=of_decide_eq_false hd;omega
 refine zc6 ?_
 refine Evs ?_
 refine znD 2 ls rfl rfl rfl rfl fun s h9 e9 R9 f9 le9 _=>?_
 refine Wk ?_
 have G9:=Gk.grow le9
 have hd9:=(zou R9 f9 Ck.ne).ok (by decide) (zDi (by rw [e9];exact hg))
 refine ⟨⟨t,s⟩,⟨rfl,gt,⟨?_,?_,?_⟩,⟨Enc.mono (Hp.le_trans lek (zot le9)) okt,hd9⟩⟩,G9⟩
 ·rw [e9];omega
 ·rw [e9];exact hg.nz (fun e=>by rw [e,List.length_nil] at hl;omega)
 ·rw [e9];exact hg.ok
theorem zDk {h:Hp} {w:Bool} {o2:Option Int}:∀ x ∈ ptsG w o2,Enc.ok h x:=fun x hx=>by
 have key:x.name.size≤4:=by
  unfold ptsG at hx
  cases o2 with
  | none =>
   simp only [List.append_nil,List.mem_cons,List.not_mem_nil,or_false] at hx
   rcases hx with rfl|rfl|rfl|rfl <;> exact Nat.le_of_ble_eq_true rfl
  | some d =>
   simp only [List.mem_append,List.mem_cons,List.not_mem_nil,or_false] at hx
   rcases hx with (rfl|rfl|rfl|rfl)|rfl <;> exact Nat.le_of_ble_eq_true rfl
 show x.name.size≤maxLen
 simp only [maxLen]
 omega
theorem zDl {d1 m1 d2 m2 d3 m3:Int} {mt:Bool} (o1:Option (Int × Int)) (o2:Option Int):(zCD d1 m1 d2 m2 d3 m3 mt o1 o2).length≤5:=by
 unfold zCD
 cases o1 <;> cases o2 <;> exact Nat.le_of_ble_eq_true rfl
theorem zDm {d1 m1 d2 m2 d3 m3:Int} {mt:Bool} {o1:Option (Int × Int)} {d:Int}:zCD d1 m1 d2 m2 d3 m3 mt o1 (some d)=zCD d1 m1 d2 m2 d3 m3 mt o1 none ++ [⟨2,4,800+d,15,false⟩]:=by
 unfold zCD
 rw [List.append_nil]
theorem zDn {h:Hp} {d1 m1 d2 m2 d3 m3:Int} {mt:Bool} {o1:Option (Int × Int)} {o2:Option Int} (b1:0≤d1∧d1 < 300) (b2:0≤m1∧m1 < 40) (b3:0≤d2∧d2 < 300) (b4:0≤m2∧m2 < 30) (b5:0≤d3∧d3 < 200) (b6:0≤m3∧m3 < 20)
  (b7:∀ q,o1=some q→(0≤q.1∧q.1 < 300)∧(0≤q.2∧q.2 < 30)) (b8:∀ d,o2=some d→0≤d∧d < 300):∀ x ∈ zCD d1 m1 d2 m2 d3 m3 mt o1 o2,Enc.ok h x:=fun x hx=>by
 have key:(0≤x.a∧x.a≤9)∧(0≤x.b∧x.b≤9)∧(0≤x.depth∧x.depth≤3000)∧0≤x.minutes∧x.minutes≤300:=by
  unfold zCD at hx
  rw [List.mem_append,List.mem_append] at hx
  rcases hx with (hx|hx)|hx
  ·simp only [List.mem_cons,List.not_mem_nil,or_false] at hx
   rcases hx with rfl|rfl|rfl <;> refine ⟨⟨?_,?_⟩,⟨?_,?_⟩,⟨?_,?_⟩,?_,?_⟩ <;> dsimp only <;> omega
  ·cases o1 with
   | none=>cases hx
   | some q =>
    have:=b7 q rfl
    rw [List.mem_singleton] at hx
    subst hx
    refine ⟨⟨?_,?_⟩,⟨?_,?_⟩,⟨?_,?_⟩,?_,?_⟩ <;> dsimp only <;> omega
  ·cases o2 with
   | none=>cases hx
   | some d =>
    have:=b8 d rfl
    rw [List.mem_singleton] at hx
    subst hx
    refine ⟨⟨?_,?_⟩,⟨?_,?_⟩,⟨?_,?_⟩,?_,?_⟩ <;> dsimp only <;> omega
 obtain ⟨k1,k2,k3,k4⟩:=key
 refine ⟨?_,?_,?_,?_⟩ <;> unfold I64 <;> omega
set_option maxRecDepth 30000 in
theorem zDo (c:Sl U8) (h:Hp) (b:Nat) (H:Cu 151 c h b):Cw jV 83 [.pointer (some ⟨b,0,none⟩)] h (fun k=>k=b) fun v h'=>∃ x:DChart,(v=x.v∧zCE x∧Enc.ok (h'.del b) x)∧Cg 151 c h b h':=by
 refine zlh (fun A W=>by simp) Try.func83 rfl rfl (by simp)  (fun q hq=>by rw [hq];exact H.ne) fun W0 hW=>?_
 have own:W0.own b:=hW b rfl
 (first|refine zie rfl ?_|refine zc4 rfl ?_|(refine zc3 ?_;first|refine zie rfl ?_|refine zc4 rfl ?_));simp only [go_sem,jq,jj,jy,jv,jk,jx]
 first|refine zmR [0,0,0,1,0,0,2] rfl ?_|refine zmQ [0,0,0,1,0,0,2] rfl ?_|(refine zc3 ?_;first|refine zmR [0,0,0,1,0,0,2] rfl ?_|refine zmQ [0,0,0,1,0,0,2] rfl ?_)
 refine Evs ?_
 refine zli (zDc c 2 _ b H (by decide)) rfl (fun q hq=>⟨by rw [hq];exact H.ne,.inr (hq ▸ own)⟩) ?_
 rintro v h1 - ⟨w,rfl,G1⟩
 have C1:=G1.1
 refine Evs ?_
 refine fun ad cap h2 P=>?_
 try simp only [go_sem,jq,jj,jy,jv,jk,jx]
 have P':Pub h1 64 (Enc.size DPoint) (ptsG w none).length ((ptsG w none).flatMap Enc.enc) ad cap h2:=P
 obtain ⟨R2,f2,_⟩:=P'.row
 have C2:=C1.grow P.le
 have G2:Cg 151 c h b h2:=G1.grow P.le
 have fr:∀ g,ad=some ⟨g,0,none⟩→h g=none∧g ≠ b:=fun g hg=>G1.fresh (f2 g hg)
 have Rd:=zou R2 f2 C1.ne
 first|refine zmR [0,1,0,0,1,0,0,0,1,0,0,1,0,0,1,0,0,1,0,0,1] rfl ?_|refine zmQ [0,1,0,0,1,0,0,0,1,0,0,1,0,0,1,0,0,1,0,0,1] rfl ?_|(refine zc3 ?_;first|refine zmR [0,1,0,0,1,0,0,0,1,0,0,1,0,0,1,0,0,1,0,0,1] rfl ?_|refine zmQ [0,1,0,0,1,0,0,0,1,0,0,1,0,0,1,0,0,1,0,0,1] rfl ?_)
 refine Evs ?_
 refine zli (zDb c 300 _ b C2 (by decide)) rfl (fun q hq=>⟨by rw [hq];exact C2.ne,.inr (hq ▸ own)⟩) ?_
 rintro v h3 - ⟨k3,⟨rfl,a3,b3⟩,G3⟩
 have C3:=G3.1
 refine Evs ?_
 refine zli (zDb c 40 _ b C3 (by decide)) rfl (fun q hq=>⟨by rw [hq];exact C3.ne,.inr (hq ▸ own)⟩) ?_
 rintro v h4 - ⟨k4,⟨rfl,a4,b4⟩,G4⟩
 have C4:=G4.1
 refine Evs ?_
 refine zli (zDb c 300 _ b C4 (by decide)) rfl (fun q hq=>⟨by rw [hq];exact C4.ne,.inr (hq ▸ own)⟩) ?_
 rintro v h5 - ⟨k5,⟨rfl,a5,b5⟩,G5⟩
 have C5:=G5.1
 refine Evs ?_
 refine zli (zDb c 30 _ b C5 (by decide)) rfl (fun q hq=>⟨by rw [hq];exact C5.ne,.inr (hq ▸ own)⟩) ?_
 rintro v h6 - ⟨k6,⟨rfl,a6,b6⟩,G6⟩
 have C6:=G6.1
 refine Evs ?_
 refine zli (zDc c 2 _ b C6 (by decide)) rfl (fun q hq=>⟨by rw [hq];exact C6.ne,.inr (hq ▸ own)⟩) ?_
 rintro v h7 - ⟨mt,rfl,G7⟩
 have C7:=G7.1
 refine Evs ?_
 refine zli (zDb c 200 _ b C7 (by decide)) rfl (fun q hq=>⟨by rw [hq];exact C7.ne,.inr (hq ▸ own)⟩) ?_
 rintro v h8 - ⟨k8,⟨rfl,a8,b8⟩,G8⟩
 have C8:=G8.1
 refine Evs ?_
 refine zli (zDb c 20 _ b C8 (by decide)) rfl (fun q hq=>⟨by rw [hq];exact C8.ne,.inr (hq ▸ own)⟩) ?_
 rintro v h9 - ⟨k9,⟨rfl,a9,b9⟩,G9⟩
 have C9:=G9.1
 refine Evs ?_
 rw [zjz (n:=900+k3) (by omega),zjz (n:=10+k4) (by omega),zjz (n:=800+k5) (by omega),zjz (n:=10+k6) (by omega),zjz (n:=900+k8) (by omega),zjz (n:=5+k9) (by omega)]
 first|refine zmR [0,1] rfl ?_|refine zmQ [0,1] rfl ?_|(refine zc3 ?_;first|refine zmR [0,1] rfl ?_|refine zmQ [0,1] rfl ?_)
 refine Evs ?_
 refine zli (zDc c 3 _ b C9 (by decide)) rfl (fun q hq=>⟨by rw [hq];exact C9.ne,.inr (hq ▸ own)⟩) ?_
 rintro v h10 - ⟨q10,rfl,G10⟩
 have C10:=G10.1
 refine Evs ?_
 have G10':Cg 151 c h2 b h10:=((((((G3.trans G4).trans G5).trans G6).trans G7).trans G8).trans G9).trans G10
 repeat' first|refine zc8 ?_|(refine zc5 ?_;simp only [go_sem,jq,jj,jy,jv,jk,jx])|refine zc3 ?_
 refine zod (ι:=Option (Int × Int) × Hp) (fun i=>⟨[(0,true,.c (.v (.pointer (some ⟨b,0,none⟩)))),(2,true,.c (.p 0 0)),(3,true,.c (.p 1 0))],[(0,.box 32 [.v (.slice none 0 0),.v (.slice none 0 0)]),(1,.box 32 [.v (.slice ad 4 cap),.s 2]),(2,.row 118 5 (zCD k3 k4 k5 k6 k8 k9 mt i.1 none).length ((zCD k3 k4 k5 k6 k8 k9 mt i.1 none).flatMap Enc.enc))],i.2,3⟩)
  (fun i=>(∀ q,i.1=some q→(0≤q.1∧q.1 < 300)∧(0≤q.2∧q.2 < 30))∧Cg 151 c h2 b i.2) (fun _=>rfl) ?_ ?_
 ·refine zc9 rfl (fun hq=>?_) (fun hq=>?_)
  ·repeat' first|refine zc8 ?_|(refine zc5 ?_;simp only [go_sem,jq,jj,jy,jv,jk,jx])|refine zc3 ?_
   refine znv rfl ?_
   refine U_t [0,2,5,1] rfl ?_
   refine Evs ?_
   refine U_1 3 1 [1,0] rfl rfl ?_
   refine Evs ?_
   refine zli (zDb c 300 _ b C10 (by decide)) rfl (fun q hq=>⟨by rw [hq];exact C10.ne,.inr (hq ▸ own)⟩) ?_
   rintro v h11 - ⟨k11,⟨rfl,a11,b11⟩,G11⟩
   have C11:=G11.1
   refine Evs ?_
   refine U_t [4] rfl ?_
   refine Evs ?_
   refine U_1 6 1 [4,1,0] rfl rfl ?_
   refine Evs ?_
   refine zli (zDb c 30 _ b C11 (by decide)) rfl (fun q hq=>⟨by rw [hq];exact C11.ne,.inr (hq ▸ own)⟩) ?_
   rintro v h12 - ⟨k12,⟨rfl,a12,b12⟩,G12⟩
   have C12:=G12.1
   refine Evs ?_
   refine U_t [7] rfl ?_
   refine Evs ?_
   refine U_1 8 0 [1,0] rfl rfl ?_
   refine Evs ?_
   refine U_1 9 0 [1,0] rfl rfl ?_
   refine Evs ?_
   refine U_1 10 0 [] rfl rfl ?_
   refine Evs ?_
   refine ⟨by simp only [maxLen];omega,?_⟩
   try simp only [go_sem,jq,jj,jy,jv,jk,jx]
   refine U_t [11] rfl ?_
   refine Evs ?_
   refine U_1 12 0 [] rfl rfl ?_
   refine Evs ?_
   refine U_d ?_
   rw [zjz (n:=700+k11) (by omega),zjz (n:=20+k12) (by omega)]
   refine ⟨(some (k11,k12),h12),[0,2,5],⟨fun q hq=>?_,(G10'.trans G11).trans G12⟩,?_⟩
   ·rw [← Option.some.inj hq];exact ⟨⟨a11,b11⟩,a12,b12⟩
   refine Evs ?_
   repeat' first|exact rfl|exact trivial|assumption|decide|refine And.intro ?_ ?_
  ·repeat' first|refine zc8 ?_|(refine zc5 ?_;simp only [go_sem,jq,jj,jy,jv,jk,jx])|refine zc3 ?_
   refine ⟨(none,h10),[0,2,3],⟨fun q hq=>(by cases hq),G10'⟩,?_⟩
   refine Evs ?_
   repeat' first|exact rfl|exact trivial|assumption|decide|refine And.intro ?_ ?_
 rintro ⟨o1,hm⟩ ⟨bo1,Gm⟩
 simp only at bo1 Gm
 have Cm:=Gm.1
 repeat' first|refine zc8 ?_|(refine zc5 ?_;simp only [go_sem,jq,jj,jy,jv,jk,jx])|refine zc3 ?_
 first|refine zmR [0,1] rfl ?_|refine zmQ [0,1] rfl ?_|(refine zc3 ?_;first|refine zmR [0,1] rfl ?_|refine zmQ [0,1] rfl ?_)
 refine Evs ?_
 refine zli (zDc c 3 _ b Cm (by decide)) rfl (fun q hq=>⟨by rw [hq];exact Cm.ne,.inr (hq ▸ own)⟩) ?_
 rintro v h13 - ⟨q13,rfl,G13⟩
 have C13:=G13.1
 refine Evs ?_
 repeat' first|refine zc8 ?_|(refine zc5 ?_;simp only [go_sem,jq,jj,jy,jv,jk,jx])|refine zc3 ?_
 refine zc9 rfl (fun hq=>?_) (fun hq=>?_)
 ·repeat' first|refine zc8 ?_|(refine zc5 ?_;simp only [go_sem,jq,jj,jy,jv,jk,jx])|refine zc3 ?_
  first|refine zmR [0,0,0,0,3] rfl ?_|refine zmQ [0,0,0,0,3] rfl ?_|(refine zc3 ?_;first|refine zmR [0,0,0,0,3] rfl ?_|refine zmQ [0,0,0,0,3] rfl ?_)
  refine Evs ?_
  have Rm:RowAt 64 h13 (Sl.mk ad cap (ptsG w none)):=zov (zov Rd (Gm.trans G13).2) zoq
  refine znE (s:=Sl.mk ad cap (ptsG w none)) rfl Rm (fun g hg=>.inl (fr g hg).1) ?_
  refine Evs ?_
  have hpl:(ptsG w none).length=4:=rfl
  refine ⟨rfl,by rw [hpl];simp only [maxLen];omega,by rw [hpl];omega,fun ad2 cap2 h14 P14=>?_⟩
  obtain ⟨G14,hn14⟩:=Cg.adopt (G2.trans (Gm.trans G13)) H.1 Rm fr P14
  have C14:=G14.1
  have P14':Pub (znC h13 (Sl.mk ad cap (ptsG w none))) 64 (Enc.size DPoint) (ptsG w (some 0)).length ((ptsG w (some 0)).flatMap Enc.enc) ad2 cap2 h14:=P14
  obtain ⟨R14,f14,_⟩:=P14'.row
  have Rd14:=zou R14 f14 hn14
  repeat' first|refine zc8 ?_|(refine zc5 ?_;simp only [go_sem,jq,jj,jy,jv,jk,jx])|refine zc3 ?_
  refine znv rfl ?_
  refine U_t [0,2,1] rfl ?_
  refine Evs ?_
  refine U_1 3 1 [1,0] rfl rfl ?_
  refine Evs ?_
  refine zli (zDb c 300 _ b C14 (by decide)) rfl (fun q hq=>⟨by rw [hq];exact C14.ne,.inr (hq ▸ own)⟩) ?_
  rintro v h15 - ⟨k15,⟨rfl,a15,b15⟩,G15⟩
  have C15:=G15.1
  refine Evs ?_
  refine U_t [4] rfl ?_
  refine Evs ?_
  refine U_1 5 0 [1,0] rfl rfl ?_
  refine Evs ?_
  refine U_1 6 0 [1,0] rfl rfl ?_
  refine Evs ?_
  refine U_1 7 0 [] rfl rfl ?_
  refine Evs ?_
  refine ⟨by have:=@zDl k3 k4 k5 k6 k8 k9 mt o1 none;simp only [maxLen];omega,by have:=@zDl k3 k4 k5 k6 k8 k9 mt o1 none;omega,?_⟩
  try simp only [go_sem,jq,jj,jy,jv,jk,jx]
  refine U_t [8] rfl ?_
  refine Evs ?_
  refine U_1 9 0 [] rfl rfl ?_
  refine Evs ?_
  refine U_d ?_
  rw [zjz (n:=800+k15) (by omega)]
  repeat' first|refine zc8 ?_|(refine zc5 ?_;simp only [go_sem,jq,jj,jy,jv,jk,jx])|refine zc3 ?_
  (first|refine zie rfl ?_|refine zc4 rfl ?_|(refine zc3 ?_;first|refine zie rfl ?_|refine zc4 rfl ?_));simp only [go_sem,jq,jj,jy,jv,jk,jx]
  refine znD 7 (zCD k3 k4 k5 k6 k8 k9 mt o1 (some k15)) rfl rfl ?_ ?_ fun s h20 e20 R20 f20 le20 _=>?_
  ·rw [zDm,List.length_append];rfl
  ·rw [zDm,List.flatMap_append];rfl
  refine Wk ?_
  have G20:=(G14.trans G15).grow le20
  have k1:(Sl.mk ad2 cap2 (ptsG w (some 0))).Ok (h20.del b):=(zov Rd14 (G15.grow le20).2).ok (by decide) (fun x hx=>zDk (w:=w) (o2:=some 0) x hx)
  have k2:s.Ok (h20.del b):=(zou R20 f20 C15.ne).ok (by decide) (by rw [e20];exact zDn ⟨a3,b3⟩ ⟨a4,b4⟩ ⟨a5,b5⟩ ⟨a6,b6⟩ ⟨a8,b8⟩ ⟨a9,b9⟩ bo1 (fun d hd=>by cases hd;exact ⟨a15,b15⟩))
  exact ⟨⟨Sl.mk ad2 cap2 (ptsG w (some 0)),s⟩,⟨rfl,⟨w,mt,k3,k4,k5,k6,k8,k9,o1,some k15,⟨⟨a3,b3⟩,⟨a4,b4⟩,⟨a5,b5⟩,⟨a6,b6⟩,⟨a8,b8⟩,⟨a9,b9⟩⟩,bo1,(fun d hd=>by cases hd;exact ⟨a15,b15⟩),rfl,e20⟩,⟨k1,k2⟩⟩,G20⟩
 repeat' first|refine zc8 ?_|(refine zc5 ?_;simp only [go_sem,jq,jj,jy,jv,jk,jx])|refine zc3 ?_
 (first|refine zie rfl ?_|refine zc4 rfl ?_|(refine zc3 ?_;first|refine zie rfl ?_|refine zc4 rfl ?_));simp only [go_sem,jq,jj,jy,jv,jk,jx]
 refine znD 2 (zCD k3 k4 k5 k6 k8 k9 mt o1 none) rfl rfl rfl rfl fun s h20 e20 R20 f20 le20 _=>?_
 refine Wk ?_
 have G20:=(Gm.trans G13).grow le20
 have k1:(Sl.mk ad cap (ptsG w none)).Ok (h20.del b):=(zov Rd G20.2).ok (by decide) (fun x hx=>zDk (w:=w) (o2:=none) x hx)
 have k2:s.Ok (h20.del b):=(zou R20 f20 C13.ne).ok (by decide) (by rw [e20];exact zDn ⟨a3,b3⟩ ⟨a4,b4⟩ ⟨a5,b5⟩ ⟨a6,b6⟩ ⟨a8,b8⟩ ⟨a9,b9⟩ bo1 (fun d hd=>by cases hd))
 exact ⟨⟨Sl.mk ad cap (ptsG w none),s⟩,⟨rfl,⟨w,mt,k3,k4,k5,k6,k8,k9,o1,none,⟨⟨a3,b3⟩,⟨a4,b4⟩,⟨a5,b5⟩,⟨a6,b6⟩,⟨a8,b8⟩,⟨a9,b9⟩⟩,bo1,(fun d hd=>by cases hd),rfl,e20⟩,⟨k1,k2⟩⟩,⟨G20.1,Hp.le_trans G2.2 G20.2⟩⟩
def dig (i:Nat):ByteArray:=⟨#[UInt8.ofNat (48+i)]⟩
theorem zDp (i:Nat) (h:Hp) (hi:i≤9):Ct jV 121 [.int .i64 i] h fun v h'=>v=.string (dig i)∧h'=h:=by
 refine Ct.forget ?_
 refine zdn (fun A W=>by simp) Try.func121 rfl rfl (by simp) fun W0=>?_
 refine Wk ?_
 refine zc9 rfl (fun hc=>?_) (fun hc=>?_)
 ·have:=of_decide_eq_true hc;omega
 refine Wk ?_
 refine zde (ι:=Unit) (fun _=>⟨[(0,true,.c (.v (.int .i64 (i:Int)))),(3,true,.c (.v (.string ByteArray.empty)))],[],h,0⟩) (fun _=>True) (fun _=>0) () trivial ?_ ?_
 ·refine Evs ?_
  repeat' first|exact rfl|exact trivial|assumption|decide|refine And.intro ?_ ?_
 rintro _ _
 refine Wk ?_
 refine zc9 rfl (fun hc=>?_) (fun hc=>?_)
 ·have:=of_decide_eq_true hc;omega
 refine zc6 ?_
 refine Evs ?_
 have hw1:IntKind.i64.wrap (48+(i:Int))=((48+i:Nat):Int):=by rw [zjz (by omega)];omega
 have hw2:IntKind.u8.wrap ((48+i:Nat):Int)=((48+i:Nat):Int):=by
  show (((48+i:Nat):Int)) % 256=_
  omega
 first|refine zmR [0,0,0,0,4] rfl ?_|refine zmQ [0,0,0,0,4] rfl ?_|(refine zc3 ?_;first|refine zmR [0,0,0,0,4] rfl ?_|refine zmQ [0,0,0,0,4] rfl ?_)
 simp only [go_sem,jq,jj,jy,jv,jk,jx,hw1,hw2]
 try (refine ⟨by decide,?_⟩)
 refine zmS (ns:=[((48+i:Nat):Int)]) rfl rfl Try.underlying22 Try.underlying5 Try.underlying9 ?_
 refine Evs ?_
 have e:bstr [((48+i:Nat):Int)] ++ ByteArray.empty=dig i:=by
  rw [ByteArray.append_empty];rfl
 rw [e]
 refine ⟨by show 1+0≤_;omega,?_⟩
 exact Wk0
theorem zDq {i:Nat}:(⟨#[115]⟩:ByteArray) ++ dig i=zCF i:=by
 ext1
 rw [ByteArray.data_append]
 rfl
theorem zDr {h:Hp} {k:Int} {i:Nat} {s:DShip} (hk:k≤10) (H:zCG k i s):Enc.ok h s:=by
 obtain ⟨h1,h2,h3,h4,h5⟩:=H
 refine ⟨?_,?_,?_,?_,?_⟩
 ·show s.name.size≤maxLen
  rw [h1]
  show 2≤maxLen
  simp only [maxLen];omega
 all_goals unfold I64;omega
set_option maxRecDepth 30000 in
theorem zDs (i:Nat) (hi:i≤9) (c:Sl U8) (h:Hp) (b:Nat) (H:Cu 151 c h b):Cw jV 112 [.pointer (some ⟨b,0,none⟩),.int .i64 i] h (fun k=>k=b) fun v h'=>∃ s:DShip,(v=s.v∧zCG 3 i s)∧Cg 151 c h b h':=by
 refine zlh (fun A W=>by simp) Try.func112 rfl rfl (by simp)  (fun q hq=>by rw [hq];exact H.ne) fun W0 hW=>?_
 have own:W0.own b:=hW b rfl
 (first|refine zie rfl ?_|refine zc4 rfl ?_|(refine zc3 ?_;first|refine zie rfl ?_|refine zc4 rfl ?_));simp only [go_sem,jq,jj,jy,jv,jk,jx]
 first|refine zmR [0,0,0,0,1,0,0,1,0,0,1,0,1,0,1] rfl ?_|refine zmQ [0,0,0,0,1,0,0,1,0,0,1,0,1,0,1] rfl ?_|(refine zc3 ?_;first|refine zmR [0,0,0,0,1,0,0,1,0,0,1,0,1,0,1] rfl ?_|refine zmQ [0,0,0,0,1,0,0,1,0,0,1,0,1,0,1] rfl ?_)
 refine Evs ?_
 refine zhF (fun _=>zDp i _ hi) ?_
 refine Evs ?_
 rw [zDq]
 refine ⟨by show 1+1≤_;omega,?_⟩
 refine zli (zDb c 200 _ b H (by decide)) rfl (fun q hq=>⟨by rw [hq];exact H.ne,.inr (hq ▸ own)⟩) ?_
 rintro v h1 - ⟨k1,⟨rfl,a1,b1⟩,G1⟩
 have C1:=G1.1
 refine Evs ?_
 refine zli (zDb c 500 _ b C1 (by decide)) rfl (fun q hq=>⟨by rw [hq];exact C1.ne,.inr (hq ▸ own)⟩) ?_
 rintro v h2 - ⟨k2,⟨rfl,a2,b2⟩,G2⟩
 have C2:=G2.1
 refine Evs ?_
 refine zli (zDb c 4 _ b C2 (by decide)) rfl (fun q hq=>⟨by rw [hq];exact C2.ne,.inr (hq ▸ own)⟩) ?_
 rintro v h3 - ⟨k3,⟨rfl,a3,b3⟩,G3⟩
 have C3:=G3.1
 refine Evs ?_
 refine zli (zDb c 3 _ b C3 (by decide)) rfl (fun q hq=>⟨by rw [hq];exact C3.ne,.inr (hq ▸ own)⟩) ?_
 rintro v h4 - ⟨k4,⟨rfl,a4,b4⟩,G4⟩
 have C4:=G4.1
 refine Evs ?_
 refine zli (zDc c 4 _ b C4 (by decide)) rfl (fun q hq=>⟨by rw [hq];exact C4.ne,.inr (hq ▸ own)⟩) ?_
 rintro v h5 - ⟨k5,rfl,G5⟩
 have C5:=G5.1
 refine Evs ?_
 rw [zjz (n:=40+k1) (by omega),zjz (n:=600+k2) (by omega)]
 refine Wk ?_
 exact ⟨⟨zCF i,40+k1,600+k2,k3,k4,k5⟩,⟨rfl,rfl,(by show 40≤40+k1∧40+k1 < 240;omega),(by show 600≤600+k2∧600+k2 < 1100;omega),⟨a3,b3⟩,a4,b4⟩,(((G1.trans G2).trans G3).trans G4).trans G5⟩
theorem zDt {k:Int} {l:List DShip} {s:DShip} (H:∀ i,i < l.length→zCG k i (l.getD i dH)) (hs:zCG k l.length s):∀ i,i < (l ++ [s]).length→zCG k i ((l ++ [s]).getD i dH):=fun i hi=>by
 rw [List.length_append,List.length_singleton] at hi
 rcases Nat.lt_or_ge i l.length with h|h
 ·rw [List.getD_eq_getElem?_getD,List.getElem?_append_left h,← List.getD_eq_getElem?_getD];exact H i h
 ·obtain rfl:i=l.length:=by omega
  have e:(l ++ [s]).getD l.length dH=s:=by simp only [List.getD_eq_getElem?_getD,List.getElem?_concat_length,Option.getD_some]
  rw [e];exact hs
set_option maxRecDepth 30000 in
theorem zDu (c:Sl U8) (h:Hp) (b:Nat) (H:Cu 151 c h b):Cw jV 84 [.pointer (some ⟨b,0,none⟩),.int .i64 3] h (fun k=>k=b) fun v h'=>∃ s:Sl DShip,(v=s.val∧zCH 3 s.l∧RowAt 46 (h'.del b) s∧∀ g,s.a=some ⟨g,0,none⟩→h g=none∧g ≠ b)∧Cg 151 c h b h':=by
 refine zlh (fun A W=>by simp) Try.func84 rfl rfl (by simp)  (fun q hq=>by rw [hq];exact H.ne) fun W0 hW=>?_
 have own:W0.own b:=hW b rfl
 (first|refine zie rfl ?_|refine zc4 rfl ?_|(refine zc3 ?_;first|refine zie rfl ?_|refine zc4 rfl ?_));simp only [go_sem,jq,jj,jy,jv,jk,jx]
 (first|refine zie rfl ?_|refine zc4 rfl ?_|(refine zc3 ?_;first|refine zie rfl ?_|refine zc4 rfl ?_));simp only [go_sem,jq,jj,jy,jv,jk,jx]
 first|refine zmR [0,0,1] rfl ?_|refine zmQ [0,0,1] rfl ?_|(refine zc3 ?_;first|refine zmR [0,0,1] rfl ?_|refine zmQ [0,0,1] rfl ?_)
 refine Evs ?_
 refine zli (zDb c 3 _ b H (by decide)) rfl (fun q hq=>⟨by rw [hq];exact H.ne,.inr (hq ▸ own)⟩) ?_
 rintro v h2 - ⟨k2,⟨rfl,a2,b2⟩,G2⟩
 have C2:=G2.1
 refine Evs ?_
 obtain ⟨n0,hn0⟩:∃ n0:Nat,IntKind.i64.wrap (1+k2)=(n0:Int)∧1≤n0∧n0≤3:=⟨(1+k2).toNat,by rw [zjz (by omega)];omega⟩
 rw [hn0.1]
 repeat' first|refine zc8 ?_|(refine zc5 ?_;simp only [go_sem,jq,jj,jy,jv,jk,jx])|refine zc3 ?_
 refine zoe (ι:=List DShip × Nat × Hp) (fun i=>⟨[(0,true,.c (.v (.pointer (some ⟨b,0,none⟩)))),(4,true,.c (.v (.slice none 0 0))),(5,true,.c (.s 0)),(6,true,.c (.v (.int .i64 i.2.1)))],[(0,.row 46 6 i.1.length (i.1.flatMap Enc.enc))],i.2.2,1⟩)
  (fun i=>i.1.length+i.2.1=n0∧(∀ j,j < i.1.length→zCG 3 j (i.1.getD j dH))∧Cg 151 c h b i.2.2) (fun i=>i.2.1) ([],n0,h2) ⟨Nat.zero_add _,(fun j hj=>absurd hj (Nat.not_lt_zero j)),G2⟩ [0] ?_ ?_
 ·refine Evs ?_
  repeat' first|exact rfl|exact trivial|assumption|decide|refine And.intro ?_ ?_
 rintro ⟨ls,n,hk⟩ ⟨hl,hg,Gk⟩
 simp only at hl hg Gk
 have Ck:=Gk.1
 refine Wk ?_
 refine zc9 rfl (fun hd=>?_) (fun hd=>?_)
 ·have hlt:0 < n:=by have:=of_decide_eq_true hd;omega
  repeat' first|refine zc8 ?_|(refine zc5 ?_;simp only [go_sem,jq,jj,jy,jv,jk,jx])|refine zc3 ?_
  first|refine zmR [0,0,0,0,1] rfl ?_|refine zmQ [0,0,0,0,1] rfl ?_|(refine zc3 ?_;first|refine zmR [0,0,0,0,1] rfl ?_|refine zmQ [0,0,0,0,1] rfl ?_)
  refine Evs ?_
  refine zli (zDs ls.length (by omega) c _ b Ck) rfl (fun q hq=>⟨by rw [hq];exact Ck.ne,.inr (hq ▸ own)⟩) ?_
  rintro v h9 - ⟨s,⟨rfl,gs⟩,G9⟩
  refine Evs ?_
  refine ⟨by simp only [maxLen];omega,by omega,?_⟩
  refine Wk ?_
  have hw:IntKind.i64.wrap ((n:Int) - 1)=((n - 1:Nat):Int):=by rw [zjz (by omega)];omega
  refine ⟨(ls ++ [s],n - 1,h9),[2],⟨?_,zDt hg gs,Gk.trans G9⟩,(by show n - 1 < n;omega),?_⟩
  ·show (ls ++ [_]).length+(n - 1)=n0
   rw [List.length_append,List.length_singleton];omega
  simp only [go_sem,jq,jj,jy,jv,jk,jx,hw,List.length_append,List.flatMap_append]
  repeat' first|exact rfl|exact trivial|assumption|decide|refine And.intro ?_ ?_
 have hn:n=0:=by have:=of_decide_eq_false hd;omega
 refine zc6 ?_
 refine Evs ?_
 refine znD 0 ls rfl rfl rfl rfl fun s h9 e9 R9 f9 le9 _=>?_
 refine Wk ?_
 have G9:=Gk.grow le9
 exact ⟨s,⟨rfl,⟨by rw [e9];omega,by rw [e9];exact hg⟩,zou R9 f9 Ck.ne,fun g hg=>Gk.fresh (f9 g hg)⟩,G9⟩
theorem zDv (h:Hp):Ct jV 122 [] h fun v h'=>∃ s:Sl Int,v=s.val∧s.l=List.replicate 64 0∧RowAt 3 h' s∧∀ g,s.a=some ⟨g,0,none⟩→h g=none:=by
 refine zdn (fun A W=>by simp) Try.func122 rfl rfl (by simp) fun W0=>?_
 refine Wk ?_
 refine ⟨by decide,by simp only [maxLen];decide,by decide,?_⟩
 rw [show zch (Operand.const (Value.int IntKind.i64 64))=false from rfl]
 refine Evs ?_
 refine znD 0 (List.replicate 64 (0:Int)) rfl rfl rfl (by kernel_rfl) fun s h9 e9 R9 f9 le9 _=>?_
 refine Wk ?_
 exact ⟨s,rfl,e9,R9,f9⟩
theorem zDw (c:Sl U8) (h:Hp) (b:Nat) (H:Cu 151 c h b):Cw jV 85 [.pointer (some ⟨b,0,none⟩)] h (fun k=>k=b) fun v h'=>∃ r:DRegime,(v=r.v∧0≤r.gap∧r.gap < 30)∧Cg 151 c h b h':=by
 refine zlh (fun A W=>by simp) Try.func85 rfl rfl (by simp)  (fun q hq=>by rw [hq];exact H.ne) fun W0 hW=>?_
 have own:W0.own b:=hW b rfl
 (first|refine zie rfl ?_|refine zc4 rfl ?_|(refine zc3 ?_;first|refine zie rfl ?_|refine zc4 rfl ?_));simp only [go_sem,jq,jj,jy,jv,jk,jx]
 first|refine zmR [0,1,0,1] rfl ?_|refine zmQ [0,1,0,1] rfl ?_|(refine zc3 ?_;first|refine zmR [0,1,0,1] rfl ?_|refine zmQ [0,1,0,1] rfl ?_)
 refine Evs ?_
 refine zli (zDb c 30 _ b H (by decide)) rfl (fun q hq=>⟨by rw [hq];exact H.ne,.inr (hq ▸ own)⟩) ?_
 rintro v h1 - ⟨k1,⟨rfl,a1,b1⟩,G1⟩
 have C1:=G1.1
 refine Evs ?_
 refine zli (zDc c 4 _ b C1 (by decide)) rfl (fun q hq=>⟨by rw [hq];exact C1.ne,.inr (hq ▸ own)⟩) ?_
 rintro v h2 - ⟨k2,rfl,G2⟩
 have C2:=G2.1
 refine Evs ?_
 refine Wk ?_
 exact ⟨⟨k1,k2⟩,⟨rfl,a1,b1⟩,G1.trans G2⟩
set_option maxRecDepth 30000 in
theorem zDx (c:Sl U8) (h:Hp) (b:Nat) (H:Cu 151 c h b):Cw jV 113 [.pointer (some ⟨b,0,none⟩)] h (fun k=>k=b) fun v h'=>∃ s:Sl Int,(v=s.val∧(s.l.length=64∧∀ y ∈ s.l,0≤y∧y≤20)∧s.Ok (h'.del b)∧RowAt 3 (h'.del b) s∧∀ g,s.a=some ⟨g,0,none⟩→h g=none)∧Cg 151 c h b h':=by
 refine zlh (fun A W=>by simp) Try.func113 rfl rfl (by simp)  (fun q hq=>by rw [hq];exact H.ne) fun W0 hW=>?_
 have own:W0.own b:=hW b rfl
 (first|refine zie rfl ?_|refine zc4 rfl ?_|(refine zc3 ?_;first|refine zie rfl ?_|refine zc4 rfl ?_));simp only [go_sem,jq,jj,jy,jv,jk,jx]
 (first|refine zie rfl ?_|refine zc4 rfl ?_|(refine zc3 ?_;first|refine zie rfl ?_|refine zc4 rfl ?_));simp only [go_sem,jq,jj,jy,jv,jk,jx]
 refine zkj (zDv _) rfl ?_
 rintro v h1 le1 ⟨⟨sa,sc,sl⟩,rfl,es,Rs,fs⟩
 simp only at es
 subst es
 refine Evs ?_
 have C1:=H.grow le1
 have fr:∀ g,sa=some ⟨g,0,none⟩→h g=none∧g ≠ b:=fun g hg=>(Cg.refl H).fresh (fs g hg)
 have Rd:=zou Rs fs H.ne
 refine Wk ?_
 have h64:(Sl.mk sa sc (List.replicate 64 (0:Int))).val=.slice sa 64 sc:=rfl
 refine zoe (ι:=Nat × List Int × Hp) (fun i=>⟨[(0,true,.c (.v (.pointer (some ⟨b,0,none⟩)))),(3,true,.c (.v (.slice sa 64 sc))),(7,true,.c (.v (.int .i64 64))),(8,true,.c (.v (.int .i64 i.1)))],[],i.2.2,0⟩)
  (fun i=>i.1≤64∧i.2.1.length=64∧(∀ y ∈ i.2.1,0≤y∧y≤20)∧Cg 151 c h b i.2.2∧RowAt 3 (i.2.2.del b) (Sl.mk sa sc i.2.1)) (fun i=>64 - i.1) (0,List.replicate 64 0,h1) ⟨Nat.zero_le _,List.length_replicate,(fun y hy=>by rw [List.eq_of_mem_replicate hy];omega),(Cg.refl H).grow le1,Rd⟩ [] ?_ ?_
 ·simp only [go_sem,jq,jj,jy,jv,jk,jx,h64,List.length_replicate]
  repeat' first|exact rfl|exact trivial|assumption|decide|refine And.intro ?_ ?_
 rintro ⟨i,l,hk⟩ ⟨hi,hl,hy,Gk,Rk⟩
 simp only at hi hl hy Gk Rk
 have Ck:=Gk.1
 refine Wk ?_
 refine zc9 rfl (fun hd=>?_) (fun hd=>?_)
 ·have hlt:i < 64:=by have:=of_decide_eq_true hd;omega
  repeat' first|refine zc8 ?_|(refine zc5 ?_;simp only [go_sem,jq,jj,jy,jv,jk,jx])|refine zc3 ?_
  (first|refine zie rfl ?_|refine zc4 rfl ?_|(refine zc3 ?_;first|refine zie rfl ?_|refine zc4 rfl ?_));simp only [go_sem,jq,jj,jy,jv,jk,jx]
  (first|refine zie rfl ?_|refine zc4 rfl ?_|(refine zc3 ?_;first|refine zie rfl ?_|refine zc4 rfl ?_));simp only [go_sem,jq,jj,jy,jv,jk,jx]
  refine ⟨by decide,?_⟩
  repeat' first|refine zc8 ?_|(refine zc5 ?_;simp only [go_sem,jq,jj,jy,jv,jk,jx])|refine zc3 ?_
  refine zod (ι:=List Int × Hp) (fun j=>⟨[(0,true,.c (.v (.pointer (some ⟨b,0,none⟩)))),(3,true,.c (.v (.slice sa 64 sc))),(7,true,.c (.v (.int .i64 64))),(8,true,.c (.v (.int .i64 i)))],[],j.2,0⟩)
   (fun j=>j.1.length=64∧(∀ y ∈ j.1,0≤y∧y≤20)∧Cg 151 c h b j.2∧RowAt 3 (j.2.del b) (Sl.mk sa sc j.1)) (fun _=>rfl) ?_ ?_
  ·refine zc9 rfl (fun hq=>?_) (fun hq=>?_)
   ·first|refine zmR [0,0,0,1,0,0,1] rfl ?_|refine zmQ [0,0,0,1,0,0,1] rfl ?_|(refine zc3 ?_;first|refine zmR [0,0,0,1,0,0,1] rfl ?_|refine zmQ [0,0,0,1,0,0,1] rfl ?_)
    refine Evs ?_
    refine zli (zDb c 5 _ b Ck (by decide)) rfl (fun q hq=>⟨by rw [hq];exact Ck.ne,.inr (hq ▸ own)⟩) ?_
    rintro v h2 - ⟨k2,⟨rfl,a2,b2⟩,G2⟩
    have C2:=G2.1
    have G2':=Gk.trans G2
    have R2:=zov Rk G2.2
    have hil:i < l.length:=by omega
    obtain ⟨g,cur,ga,gb,gs,R3⟩:=zoy (i:=i) (o:=0) (u:=.int .i64 (5 * k2)) (w:=5 * k2) R2 hil (by decide) rfl
    have ga:sa=some ⟨g,0,none⟩:=ga
    have hgb:g ≠ b:=(fr g ga).2
    have gb':h2 g=some (.cells cur 3 (0,0)):=by rw [Hp.del_ne hgb] at gb;exact gb
    simp only [go_sem,jq,jj,jy,jv,jk,jx,ga,zjz (show -9223372036854775808≤5 * k2∧5 * k2≤9223372036854775807 by omega),Option.map_some,za4,Option.isSome_some,jW,jY,Nat.mul_one,Nat.zero_add,Nat.add_zero,true_and,and_true,implies_true]
    refine ⟨hlt,?_⟩
    have e0:i * Enc.size Int+0=i:=by show i * 1+0=i;omega
    rw [e0] at gs R3
    refine zlC (by simp only [go_sem]) (by simp only [go_sem]) rfl rfl gb' (.inl (fr g ga).1) gs ?_
    refine ⟨(l.set i (5 * k2),h2.ins g (.cells (spl i [.int .i64 (5 * k2)] cur.toList).toArray 3 (0,0))),[],⟨by rw [List.length_set];exact hl,fun y h9=>?_,G2'.ins H.1 (fr g ga).1 hgb,by rw [zoz hgb,← ga];exact R3⟩,?_⟩
    ·rcases List.mem_or_eq_of_mem_set h9 with h9|h9
     ·exact hy y h9
     ·rw [h9];omega
    simp only [go_sem,jq,jj,jy,jv,jk,jx,ga]
    repeat' first|exact rfl|exact trivial|assumption|decide|refine And.intro ?_ ?_
   ·repeat' first|refine zc8 ?_|(refine zc5 ?_;simp only [go_sem,jq,jj,jy,jv,jk,jx])|refine zc3 ?_
    refine ⟨(l,hk),[],⟨hl,hy,Gk,Rk⟩,?_⟩
    refine Evs ?_
    repeat' first|exact rfl|exact trivial|assumption|decide|refine And.intro ?_ ?_
  rintro ⟨l2,hj⟩ ⟨hl2,hy2,Gj,Rj⟩
  simp only at hl2 hy2 Gj Rj
  repeat' first|refine zc8 ?_|(refine zc5 ?_;simp only [go_sem,jq,jj,jy,jv,jk,jx])|refine zc3 ?_
  (first|refine zie rfl ?_|refine zc4 rfl ?_|(refine zc3 ?_;first|refine zie rfl ?_|refine zc4 rfl ?_));simp only [go_sem,jq,jj,jy,jv,jk,jx]
  refine ⟨(i+1,l2,hj),[],⟨hlt,hl2,hy2,Gj,Rj⟩,(by show 64 - (i+1) < 64 - i;omega),?_⟩
  refine Evs ?_
  repeat' first|exact zjB (zjA hlt (by omega))|exact rfl|exact trivial|assumption|decide|refine And.intro ?_ ?_
 refine Wk ?_
 exact ⟨Sl.mk sa sc l,⟨by simp only [Sl.val,hl],⟨hl,hy⟩,Rk.ok (by decide) fun y h9=>by have:=hy y h9;show I64 y;unfold I64;omega,Rk,fun g hg=>(fr g hg).1⟩,Gk⟩
set_option maxRecDepth 30000 in
theorem zDy (c:Sl U8) (h:Hp) (b:Nat) (H:Cu 151 c h b):Cw jV 86 [.pointer (some ⟨b,0,none⟩)] h (fun k=>k=b) fun v h'=>∃ w:DCrew,(v=w.v∧zCI w∧RowAt 3 (h'.del b) w.moves∧∀ g,w.moves.a=some ⟨g,0,none⟩→h g=none)∧Cg 151 c h b h':=by
 refine zlh (fun A W=>by simp) Try.func86 rfl rfl (by simp)  (fun q hq=>by rw [hq];exact H.ne) fun W0 hW=>?_
 have own:W0.own b:=hW b rfl
 (first|refine zie rfl ?_|refine zc4 rfl ?_|(refine zc3 ?_;first|refine zie rfl ?_|refine zc4 rfl ?_));simp only [go_sem,jq,jj,jy,jv,jk,jx]
 first|refine zmR [0,1,0,0,1,0,0,1,0,1] rfl ?_|refine zmQ [0,1,0,0,1,0,0,1,0,1] rfl ?_|(refine zc3 ?_;first|refine zmR [0,1,0,0,1,0,0,1,0,1] rfl ?_|refine zmQ [0,1,0,0,1,0,0,1,0,1] rfl ?_)
 refine Evs ?_
 refine zli (zDb c 4 _ b H (by decide)) rfl (fun q hq=>⟨by rw [hq];exact H.ne,.inr (hq ▸ own)⟩) ?_
 rintro v h1 - ⟨k1,⟨rfl,a1,b1⟩,G1⟩
 have C1:=G1.1
 refine Evs ?_
 refine zli (zDb c 3 _ b C1 (by decide)) rfl (fun q hq=>⟨by rw [hq];exact C1.ne,.inr (hq ▸ own)⟩) ?_
 rintro v h2 - ⟨k2,⟨rfl,a2,b2⟩,G2⟩
 have C2:=G2.1
 refine Evs ?_
 refine zli (zDb c 60 _ b C2 (by decide)) rfl (fun q hq=>⟨by rw [hq];exact C2.ne,.inr (hq ▸ own)⟩) ?_
 rintro v h3 - ⟨k3,⟨rfl,a3,b3⟩,G3⟩
 have C3:=G3.1
 refine Evs ?_
 refine zli (zDx c _ b C3) rfl (fun q hq=>⟨by rw [hq];exact C3.ne,.inr (hq ▸ own)⟩) ?_
 rintro v h4 - ⟨s,⟨rfl,ms,_,Rs,fs⟩,G4⟩
 have C4:=G4.1
 refine Evs ?_
 rw [zjz (n:=1+k1) (by omega),zjz (n:=1+k2) (by omega)]
 refine Wk ?_
 exact ⟨⟨1+k1,1+k2,k3,s⟩,⟨rfl,⟨(by show 1≤1+k1∧1+k1 < 5;omega),(by show 1≤1+k2∧1+k2 < 4;omega),⟨a3,b3⟩,ms⟩,Rs,fun g hg=>((((Cg.refl H).trans G1).trans G2).trans G3).fresh (fs g hg) |>.1⟩,((G1.trans G2).trans G3).trans G4⟩
set_option maxRecDepth 30000 in
theorem zDz (c:Sl U8) (h:Hp) (b:Nat) (H:Cu 151 c h b):Cw jV 41 [.pointer (some ⟨b,0,none⟩)] h (fun k=>k=b) fun v h'=>∃ x:DHarbour,(v=x.v∧zCJ x∧Enc.ok (h'.del b) x)∧Cg 151 c h b h':=by
 refine zlh (fun A W=>by simp) Try.func41 rfl rfl (by simp)  (fun q hq=>by rw [hq];exact H.ne) fun W0 hW=>?_
 have own:W0.own b:=hW b rfl
 (first|refine zie rfl ?_|refine zc4 rfl ?_|(refine zc3 ?_;first|refine zie rfl ?_|refine zc4 rfl ?_));simp only [go_sem,jq,jj,jy,jv,jk,jx]
 first|refine zmR [0,1,0,1,0,1,0,1,0,1] rfl ?_|refine zmQ [0,1,0,1,0,1,0,1,0,1] rfl ?_|(refine zc3 ?_;first|refine zmR [0,1,0,1,0,1,0,1,0,1] rfl ?_|refine zmQ [0,1,0,1,0,1,0,1,0,1] rfl ?_)
 refine Evs ?_
 refine zli (zDj c _ b H) rfl (fun q hq=>⟨by rw [hq];exact H.ne,.inr (hq ▸ own)⟩) ?_
 rintro v h1 - ⟨f,⟨rfl,gt,gs0,okf⟩,G1⟩
 have C1:=G1.1
 refine Evs ?_
 refine zli (zDo c _ b C1) rfl (fun q hq=>⟨by rw [hq];exact C1.ne,.inr (hq ▸ own)⟩) ?_
 rintro v h2 - ⟨x,⟨rfl,gc,okx⟩,G2⟩
 have C2:=G2.1
 refine Evs ?_
 refine zli (zDu c _ b C2) rfl (fun q hq=>⟨by rw [hq];exact C2.ne,.inr (hq ▸ own)⟩) ?_
 rintro v h3 - ⟨fl,⟨rfl,gfl,Rf,ff⟩,G3⟩
 have C3:=G3.1
 refine Evs ?_
 refine zli (zDw c _ b C3) rfl (fun q hq=>⟨by rw [hq];exact C3.ne,.inr (hq ▸ own)⟩) ?_
 rintro v h4 - ⟨r,⟨rfl,g0,g1⟩,G4⟩
 have C4:=G4.1
 refine Evs ?_
 refine zli (zDy c _ b C4) rfl (fun q hq=>⟨by rw [hq];exact C4.ne,.inr (hq ▸ own)⟩) ?_
 rintro v h5 - ⟨w,⟨rfl,gw,Rw,fw⟩,G5⟩
 have C5:=G5.1
 refine Evs ?_
 obtain ⟨fa,fc,l0⟩:=fl
 obtain ⟨n,hn⟩:∃ n,l0.length=n:=⟨_,rfl⟩
 have hfv:(Sl.mk fa fc l0).val=.slice fa n fc:=by rw [← hn];rfl
 have hm:=gt.1
 have hn3:n≤3:=by have:=gfl.1;simp only [hn] at this;omega
 rw [hfv]
 (first|refine zie rfl ?_|refine zc4 rfl ?_|(refine zc3 ?_;first|refine zie rfl ?_|refine zc4 rfl ?_));simp only [go_sem,jq,jj,jy,jv,jk,jx]
 rw [zjz (n:=f.tide.mean+150) (by omega)]
 (first|refine zie rfl ?_|refine zc4 rfl ?_|(refine zc3 ?_;first|refine zie rfl ?_|refine zc4 rfl ?_));simp only [go_sem,jq,jj,jy,jv,jk,jx]
 repeat' first|refine zc8 ?_|(refine zc5 ?_;simp only [go_sem,jq,jj,jy,jv,jk,jx])|refine zc3 ?_
 refine zoe (ι:=Nat × List DShip × Hp) (fun i=>⟨[(2,true,.c (.p 0 0)),(3,true,.c (.p 1 0)),(26,true,.c (.v (.int .i64 n))),(27,true,.c (.v (.int .i64 i.1)))],[(0,.box 40 [.v (.int .i64 0),.v (.slice none 0 0),.v (.slice none 0 0),.v (.slice none 0 0),.v (.slice none 0 0),.v (.slice none 0 0),.v (.int .i64 0),.v (.bool false),.v (.int .i64 0),.v (.int .i64 0),.v (.int .i64 0),.v (.slice none 0 0)]),(1,.box 40 [.v (.int .i64 (f.tide.mean+150)),.v f.tide.parts.val,.v f.surges.val,.v x.points.val,.v x.segments.val,.v (.slice fa n fc),.v (.int .i64 r.gap),.v (.bool r.noMeet),.v (.int .i64 w.tugs),.v (.int .i64 w.pilots),.v (.int .i64 w.rest),.v w.moves.val])],i.2.2,2⟩)
  (fun i=>i.1≤n∧i.2.1.length=n∧(∀ j,j < n→zCG (if j < i.1 then 2 else 3) j (i.2.1.getD j dH))∧Cg 151 c h2 b i.2.2∧RowAt 46 (i.2.2.del b) (Sl.mk fa fc i.2.1)∧RowAt 3 (i.2.2.del b) w.moves) (fun i=>n - i.1) (0,l0,h5)
  ⟨Nat.zero_le _,hn,fun j hj=>gfl.2 j (by rw [hn];exact hj),(G3.trans G4).trans G5,zov Rf (G4.trans G5).2,Rw⟩ [0,1] ?_ ?_
 ·refine Evs ?_
  repeat' first|exact rfl|exact trivial|assumption|decide|refine And.intro ?_ ?_
 rintro ⟨i,l,hk⟩ ⟨hi,hl,hg,Gk,Rk,Rm⟩
 simp only at hi hl hg Gk Rk Rm
 have Ck:=Gk.1
 have okd:(Sl.mk fa fc l).Ok (hk.del b):=Rk.ok (by decide) fun s hs=>by
  obtain ⟨j,hj,rfl⟩:=List.getElem_of_mem hs
  have hj:j < l.length:=hj
  have:=hg j (by omega)
  rw [List.getD_eq_getElem?_getD,List.getElem?_eq_getElem hj] at this
  exact zDr (by split <;> decide) this
 refine Wk ?_
 refine zc9 rfl (fun hd=>?_) (fun hd=>?_)
 ·have hlt:i < n:=by have:=of_decide_eq_true hd;omega
  have hil:i < (Sl.mk fa fc l).l.length:=by show i < l.length;omega
  have hili:(i:Int) < n:=by omega
  have okl:=okd.mono zoq
  have hfs:=zlT okl hil
  obtain ⟨g,cur,ga,gb,gs,R3⟩:=zoy (i:=i) (o:=4) (u:=.int .i64 (min (Sl.mk fa fc l).l[i].tugs 1)) (w:={ (Sl.mk fa fc l).l[i] with tugs:=min (Sl.mk fa fc l).l[i].tugs 1 }) Rk hil (by decide) rfl
  have ga:fa=some ⟨g,0,none⟩:=ga
  simp only [ga,Option.map_some,za4,Nat.zero_add] at hfs
  have hgb:g ≠ b:=(ff g ga).2
  have hgn2:h2 g=none:=(ff g ga).1
  have hgn:h g=none:=((G1.trans G2).fresh hgn2).1
  have gb2:hk g=some (.cells cur 46 (0,0)):=by rw [Hp.del_ne hgb] at gb;exact gb
  repeat' first|refine zc8 ?_|(refine zc5 ?_;simp only [go_sem,jq,jj,jy,jv,jk,jx])|refine zc3 ?_
  (first|refine zie rfl ?_|refine zc4 rfl ?_|(refine zc3 ?_;first|refine zie rfl ?_|refine zc4 rfl ?_));simp only [go_sem,jq,jj,jy,jv,jk,jx]
  repeat' first|refine zc8 ?_|(refine zc5 ?_;simp only [go_sem,jq,jj,jy,jv,jk,jx])|refine zc3 ?_
  refine znv rfl ?_
  refine U_t [0,2,3,5,1,4,6,7,8] rfl ?_
  simp only [go_sem,jq,jj,jy,jv,jk,jx,ga,hfs,hil,hili,okl.some hil,Option.map_some,za4,Option.isSome_some,jW,jY,Nat.zero_add,Nat.add_zero,true_and,and_true,implies_true,and_self,List.toList_toArray]
  refine U_1 9 0 [1,0] rfl rfl ?_
  simp only [go_sem,jq,jj,jy,jv,jk,jx,ga,hfs,hil,hili,okl.some hil,Option.map_some,za4,Option.isSome_some,jW,jY,Nat.zero_add,Nat.add_zero,true_and,and_true,implies_true,and_self,List.toList_toArray]
  refine U_t [10,11] rfl ?_
  simp only [go_sem,jq,jj,jy,jv,jk,jx,ga,hfs,hil,hili,okl.some hil,Option.map_some,za4,Option.isSome_some,jW,jY,Nat.zero_add,Nat.add_zero,true_and,and_true,implies_true,and_self,List.toList_toArray]
  refine U_1 12 1 [] rfl rfl ?_
  simp only [go_sem,jq,jj,jy,jv,jk,jx,ga,hfs,hil,hili,okl.some hil,Option.map_some,za4,Option.isSome_some,jW,jY,Nat.zero_add,Nat.add_zero,true_and,and_true,implies_true,and_self,List.toList_toArray]
  refine zlC (by simp only [go_sem]) (by simp only [go_sem]) rfl rfl gb2 (.inl hgn) gs ?_
  try simp only [go_sem,jq,jj,jy,jv,jk,jx]
  refine U_d ?_
  (first|refine zie rfl ?_|refine zc4 rfl ?_|(refine zc3 ?_;first|refine zie rfl ?_|refine zc4 rfl ?_));simp only [go_sem,jq,jj,jy,jv,jk,jx]
  have hgi:=hg i hlt
  have hgd:l.getD i dH=l[i]'(by omega):=by rw [List.getD_eq_getElem?_getD,List.getElem?_eq_getElem (by omega)];rfl
  rw [hgd,if_neg (Nat.lt_irrefl i)] at hgi
  refine ⟨(i+1,l.set i { (l[i]'(by omega)) with tugs:=min (l[i]'(by omega)).tugs 1 },hk.ins g (.cells (spl (i * 6+4) [.int .i64 (min (l[i]'(by omega)).tugs 1)] cur.toList).toArray 46 (0,0))),[0,1],⟨hlt,by rw [List.length_set];exact hl,fun j hj=>?_,Gk.ins C2.1 hgn2 hgb,by rw [zoz hgb,← ga];exact R3,Rm.keep fun g' hg'=>?_⟩,(by show n - (i+1) < n - i;omega),?_⟩
  ·by_cases e:i=j
   ·subst e
    rw [if_pos (Nat.lt_succ_self i),List.getD_eq_getElem?_getD,List.getElem?_set_self (by omega)]
    obtain ⟨q1,q2,q3,q4,q5⟩:=hgi
    exact ⟨q1,q2,q3,q4,(by show 0≤min (l[i]'(by omega)).tugs 1∧min (l[i]'(by omega)).tugs 1 < 2;omega)⟩
   ·have:=hg j hj
    rw [List.getD_eq_getElem?_getD,List.getElem?_set_ne e,← List.getD_eq_getElem?_getD]
    by_cases e2:j < i
    ·rw [if_pos e2] at this;rw [if_pos (by show j < i+1;omega)];exact this
    ·rw [if_neg e2] at this;rw [if_neg (by show ¬ j < i+1;omega)];exact this
  ·have hne:g' ≠ g:=fun e=>by
    subst e
    have h4n:=fw g' hg'
    have hm3:=Rf.mem (g:=g') ga
    cases h9:(h3.del b) g' with
    | none=>exact hm3 h9
    | some o =>
     have:=G4.2 _ _ h9
     rw [Hp.del_ne hgb,h4n] at this
     cases this
   rw [zoz hgb,Hp.ins_ne hne]
  simp only [go_sem,jq,jj,jy,jv,jk,jx,ga]
  repeat' first|exact zjB (zjA hlt (by omega))|exact rfl|exact trivial|assumption|decide|refine And.intro ?_ ?_
 have hin:i=n:=by have:=of_decide_eq_false hd;omega
 subst hin
 subst hl
 refine Wk ?_
 have okf':=Enc.mono (Hp.le_trans G2.2 Gk.2) okf
 have okx':=Enc.mono Gk.2 okx
 have okm:=Rm.ok (by decide) fun y hy=>by have:=gw.2.2.2.2 y hy;show I64 y;unfold I64;omega
 obtain ⟨⟨okt0,okt1⟩,oks⟩:=okf'
 refine ⟨⟨⟨⟨f.tide.mean+150,f.tide.parts⟩,f.surges⟩,x,⟨fa,fc,l⟩,r,w⟩,⟨rfl,⟨(by show 150≤f.tide.mean+150∧f.tide.mean+150 < 450;omega),gt.2,gs0,gc,⟨(by show 1≤l.length∧l.length≤3;have:=gfl.1;simp only [hn] at this;omega),fun j hj=>?_⟩,⟨g0,g1⟩,gw⟩,⟨⟨⟨(by show I64 (f.tide.mean+150);unfold I64;omega),okt1⟩,oks⟩,okx',okd,(by show I64 r.gap;unfold I64;omega),?_⟩⟩,(G1.trans G2).trans Gk⟩
 ·have hj:j < l.length:=hj
  have:=hg j (by omega)
  rwa [if_pos (by omega)] at this
 ·obtain ⟨w1,w2,w3,_⟩:=gw
  exact ⟨(by show I64 w.tugs;unfold I64;omega),(by show I64 w.pilots;unfold I64;omega),(by show I64 w.rest;unfold I64;omega),okm⟩
end Go.Proofs.Ytdeflkhkfmjckaa
