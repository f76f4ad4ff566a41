/- What functions of the given program compute, as contracts. -/
import Derived.Test.YtdejfjdbcggilaaGreatSGFnRefusalsx4
import Derived.Test.YtdejfjdbcggilaaGreatSGFnRefusalsx5
import Derived.Test.YtdejfjdbcggilaaGreatXGFnRefusals7
set_option linter.unusedVariables false
set_option linter.unusedSimpArgs false
set_option maxRecDepth 4000
open Nat renaming reduceAdd → jq, reduceMul → jj, reduceBEq → jy, reduceLeDiff → jv, reduceLT → jk, reduceEqDiff → jx
open Bool renaming or_eq_false_iff → jp, or_eq_true → jQ, and_eq_true → jJ
open Int renaming toNat_natCast → jW, natCast_nonneg → jY
open Go.Proofs.Tryz renaming prog → jV
namespace Go.Proofs.YtdejfjdbcggilaaGreat
open Go Go.SL
set_option maxHeartbeats 1000000
def zCH (f:zOu) (c:zOv) (k:Int) (s:DShip):List DWindow:=if zzV f=true∧zCo c k s=true then zBR (zCk f (zCp c k s)) (zCq c k s) else []
theorem zCJ (f:DForecast) (lv m:Int) (p q:Nat) (h:Hp) (hf:Enc.ok h f) (h0:0 < f.surges.l.length) (hp:h.lds (some ⟨p,0,none⟩) 3=some [.int .i64 f.tide.mean,f.tide.parts.val,f.surges.val]) (hq:h.lds (some ⟨q,0,none⟩) 1=some [.int .i64 lv]):Ct jV 286 [.int .i64 m,.pointer (some ⟨p,0,none⟩),.pointer (some ⟨q,0,none⟩)] h fun v h'=>v=.bool (decide (lv≤zBz (Con.con f) m))∧h'=h:=by
 refine zdn (fun A W=>by simp) Tryz.func286 rfl rfl (by simp) fun W0=>?_
 refine Wk ?_
 refine zyW rfl ?_
 refine U_t [0,1,3] rfl ?_
 simp only [go_sem,jq,jj,jy,jv,jk,jx,hp,hq]
 refine U_1 2 0 [3] rfl rfl ?_
 simp only [go_sem,jq,jj,jy,jv,jk,jx,hp,hq]
 refine zhF (fun _=>zBJ f _ _ hf h0) ?_
 simp only [go_sem,jq,jj,jy,jv,jk,jx,hp,hq]
 refine U_t [4,5] rfl ?_
 simp only [go_sem,jq,jj,jy,jv,jk,jx,hp,hq]
 refine U_d ?_
 exact Wk0
theorem zCK (f:DForecast) (lv:Int) (h:Hp) (hf:Enc.ok h f) (hok:zzV (Con.con f)=true):Ct jV 267 [f.v,.int .i64 lv] h fun v h'=>∃ s:Sl DWindow,v=s.val∧s.l=zCk (Con.con f) lv∧s.Ok h'∧Mine h h' s:=by
 have h0:0 < f.surges.l.length:=by have:=zBu hok;rwa [zBv] at this
 refine zdn (fun A W=>by simp) Tryz.func267 rfl rfl (by simp) fun W0=>?_
 repeat' first|refine Wa ?_|refine zhF (fun _=>zzY f _ hf) ?_|(simp only [go_sem,jq,jj,jy,jv,jk,jx];try rfl)|refine Wb ?_|fail
 refine zc9 rfl (fun hc=>?_) (fun hc=>?_)
 ·rw [hok] at hc;cases hc
 refine zc5 ?_
 refine Evs ?_
 refine zx5 1 rfl rfl fun q hq _=>?_
 refine Evs ?_
 refine zx5 0 rfl rfl fun p hp _=>?_
 refine Evs ?_
 have hq:h q=none:=hq
 have hp:(h.ins q (.cells #[.int .i64 lv] 3 (0,0))) p=none:=hp
 have lq:h.le (h.ins q (.cells #[.int .i64 lv] 3 (0,0))):=Hp.ins_le hq
 have lp:=Hp.ins_le (o:=.cells #[.int .i64 f.tide.mean,f.tide.parts.val,f.surges.val] 49 (0,0)) hp
 have hne:q ≠ p:=fun e=>by subst e;rw [Hp.ins_same] at hp;cases hp
 have hl:=Hp.le_trans lq lp
 refine zlS [1] rfl ?_
 refine Evs ?_
 refine zkr (zCl 286 [.pointer (some ⟨p,0,none⟩),.pointer (some ⟨q,0,none⟩)] (fun m=>decide (lv≤zBz (Con.con f) m)) _ (fun k _=>zCJ f lv k p q _ (Enc.mono hl hf) h0 (zx7 (xs:=[.int .i64 f.tide.mean,f.tide.parts.val,f.surges.val]) Hp.ins_same rfl (Nat.le_refl 3)) (zx7 (xs:=[.int .i64 lv]) (by rw [Hp.ins_ne hne,Hp.ins_same]) rfl (Nat.le_refl 1)))) rfl ?_
 rintro v h2 le2 ⟨s2,rfl,q1,q2,q3⟩
 refine Wk ?_
 exact ⟨s2,rfl,q1,q2,Mine.back hl q3⟩
theorem zCL (f:DForecast) (c:DChart) (k:Int) (s:DShip) (h:Hp) (hf:Enc.ok h f) (hc:Enc.ok h c) (hs:Enc.ok h s):Ct jV 244 [f.v,c.v,.int .i64 k,s.v] h fun v h'=>∃ r:Sl DWindow,v=r.val∧r.l=zCH (Con.con f) (Con.con c) k s∧r.Ok h'∧Mine h h' r:=by
 rw [zCH]
 refine zdn (fun A W=>by simp) Tryz.func244 rfl rfl (by simp) fun W0=>?_
 repeat' first|refine Wa ?_|refine zhF (fun _=>zzY f _ hf) ?_|refine zhF (fun _=>zCy c _ s _ hc hs) ?_|(simp only [go_sem,jq,jj,jy,jv,jk,jx];try rfl)|refine Wb ?_|fail
 refine zc9 rfl (fun hq=>?_) (fun hq=>?_)
 ·refine Wk ?_
  rw [if_neg (by intro e;rw [e.1,e.2] at hq;cases hq)]
  exact ⟨⟨none,0,[]⟩,rfl,rfl,znp,Mine.nil⟩
 simp only [jp,Bool.not_eq_false'] at hq
 rw [if_pos ⟨hq.1,hq.2⟩]
 have h0:0 < f.surges.l.length:=by have:=zBu hq.1;rwa [zBv] at this
 refine Wk ?_
 refine zyW rfl ?_
 refine U_t [0,1,2,3,6,7,8] rfl ?_
 refine Evs ?_
 refine U_1 4 0 [8,6,0] rfl rfl ?_
 refine Evs ?_
 refine zhF (fun _=>zCz c _ s _ hc hs) ?_
 refine Evs ?_
 refine U_1 5 0 [8,6] rfl rfl ?_
 refine Evs ?_
 refine zkr (zCK f _ _ hf hq.1) rfl ?_
 rintro v h1 le1 ⟨s1,rfl,e1,o1,m1⟩
 refine Evs ?_
 refine U_1 9 0 [] rfl rfl ?_
 refine Evs ?_
 refine zhF (fun _=>zCA c _ s _ (Enc.mono (x:=c) le1 hc) (Enc.mono (x:=s) le1 hs)) ?_
 refine Evs ?_
 refine U_1 10 0 [] rfl rfl ?_
 refine Evs ?_
 refine zkr (zB4 s1 _ _ o1 (by rw [e1];exact Nat.le_trans zCa (by decide))) rfl ?_
 rintro v h2 le2 ⟨s2,rfl,e2,o2,m2⟩
 refine Evs ?_
 refine U_t [11] rfl ?_
 refine Evs ?_
 refine U_d ?_
 refine Wk ?_
 exact ⟨s2,rfl,by rw [e2,e1],o2,Mine.back le1 m2⟩
def zCZ (s:DSegment) (pt:Int):Int:=if pt=s.a then s.b else if pt=s.b then s.a else -1
def zC0 (g:List DSegment) (pts:List Int) (s:Int):Option (List Int) :=
 if 0≤s∧s < g.length then (if zCZ (g.getD s.toNat dG) (pts.getLast?.getD 0) < 0∨zCZ (g.getD s.toNat dG) (pts.getLast?.getD 0) ∈ pts then none else some (pts ++ [zCZ (g.getD s.toNat dG) (pts.getLast?.getD 0)])) else none
def ptsK (g:List DSegment) (a:Int) (r:List Int):Nat→Option (List Int)
 | 0=>some [a]
 | k+1=>(ptsK g a r k).bind fun pts=>zC0 g pts (r.getD k 0)
def zC1 (c:zOv) (a:Int) (r:List Int):Option (List Int):=if 0≤a∧a < c.points.length then ptsK c.segments a r r.length else none
def zC2 (c:zOv) (a:Int) (r:List Int):Option (List Int):=if zz9 c=true then zC1 c a r else none
theorem zC3 {g:List DSegment} {a:Int} {r:List Int} {k:Nat} (h:ptsK g a r k=none):∀ {n:Nat},k≤n→ptsK g a r n=none
 | 0,hn=>by rw [← Nat.le_zero.1 hn,h]
 | n+1,hn=>by
  rcases Nat.lt_or_ge k (n+1) with h1|h1
  ·rw [ptsK,zC3 h (Nat.le_of_lt_succ h1)];rfl
  ·obtain rfl:k=n+1:=by omega
   exact h
theorem zC4 {c:zOv} (h:zz9 c=true):c.points.length≤8∧∀ i,i < c.segments.length→0≤(c.segments.getD i dG).a∧(c.segments.getD i dG).a < c.points.length∧0≤(c.segments.getD i dG).b∧(c.segments.getD i dG).b < c.points.length:=by
 simp only [zz9,jJ,decide_eq_true_eq] at h
 refine ⟨h.1.1.1,fun i hi=>?_⟩
 have:=h.2 i hi
 simp only [zz8,zz6,jJ,decide_eq_true_eq] at this
 exact ⟨this.1.1,this.1.2.1,this.1.2.2.1,this.1.2.2.2.1⟩
theorem zC5 {c:zOv} (h:zz9 c=true) {i:Nat} (hi:i < c.segments.length) (p:Int):zCZ (c.segments.getD i dG) p < c.points.length∧-1≤zCZ (c.segments.getD i dG) p:=by
 have h1:=(zC4 h).2 i hi
 unfold zCZ
 split
 ·omega
 ·split <;> omega
theorem zC6 (c:DChart):(Con.con c).points=c.points.l:=zz0 _
theorem zC7 (s:DSegment) (pt:Int) (h:Hp):Ct jV 264 [s.v,.int .i64 pt] h fun v h'=>v=.int .i64 (zCZ s pt)∧h'=h:=by
 refine zdn (fun A W=>by simp) Tryz.func264 rfl rfl (by simp) fun W0=>?_
 refine Wk ?_
 refine zc9 rfl (fun hq=>?_) (fun hq=>?_)
 ·refine Wk ?_
  rw [zCZ,if_pos (eq_of_beq hq)]
 ·refine Wk ?_
  refine zc9 rfl (fun hr=>?_) (fun hr=>?_)
  ·refine Wk ?_
   rw [zCZ,if_neg (ne_of_beq_false hq),if_pos (eq_of_beq hr)]
  ·refine Wk ?_
   rw [zCZ,if_neg (ne_of_beq_false hq),if_neg (ne_of_beq_false hr)]
theorem zDt {g:List DSegment} {pts pts':List Int} {s:Int} (h:zC0 g pts s=some pts'):(0≤s∧s < g.length)∧0≤zCZ (g.getD s.toNat dG) (pts.getLast?.getD 0)∧zCZ (g.getD s.toNat dG) (pts.getLast?.getD 0) ∉ pts∧pts'=pts ++ [zCZ (g.getD s.toNat dG) (pts.getLast?.getD 0)]:=by
 unfold zC0 at h
 split at h
 ·rename_i h1
  split at h
  ·cases h
  ·rename_i h2
   rw [not_or] at h2
   exact ⟨h1,by omega,h2.2,(Option.some.inj h).symm⟩
 ·cases h
theorem zDu {g:List DSegment} {a:Int} {r pts:List Int} {k:Nat} (hk:k < r.length) (h:ptsK g a r k=some pts):ptsK g a r (k+1)=zC0 g pts r[k]:=by
 rw [ptsK,h,Option.bind_some,List.getD_eq_getElem?_getD,List.getElem?_eq_getElem hk];rfl
theorem zDv {g:List DSegment} {a:Int} {r pts:List Int} {k:Nat} (h:ptsK g a r (k+1)=some pts):∃ p,ptsK g a r k=some p∧zC0 g p (r.getD k 0)=some pts:=by
 rw [ptsK] at h
 cases hk:ptsK g a r k with
 | none=>rw [hk] at h;cases h
 | some p=>rw [hk,Option.bind_some] at h;exact ⟨p,rfl,h⟩
theorem zDw {g:List DSegment} {a:Int} {r:List Int}:∀ {k:Nat} {pts:List Int},ptsK g a r k=some pts→pts.length=k+1
 | 0,pts,h=>by rw [ptsK] at h;rw [← Option.some.inj h];rfl
 | k+1,pts,h=>by
  obtain ⟨p,h1,h2⟩:=zDv h
  rw [(zDt h2).2.2.2,List.length_append,zDw h1];rfl
theorem zDx {g:List DSegment} {a:Int} {r:List Int}:∀ {k:Nat} {pts:List Int},ptsK g a r k=some pts→pts.Nodup
 | 0,pts,h=>by rw [ptsK] at h;rw [← Option.some.inj h];simp
 | k+1,pts,h=>by
  obtain ⟨p,h1,h2⟩:=zDv h
  obtain ⟨_,_,h3,h4⟩:=zDt h2
  rw [h4,List.nodup_append]
  exact ⟨zDx h1,by simp,fun x hx y hy e=>by rw [List.mem_singleton.1 hy] at e;rw [e] at hx;exact h3 hx⟩
theorem zDy {c:zOv} (hC:zz9 c=true) {a:Int} (ha:0≤a∧a < c.points.length) {r:List Int}:∀ {k:Nat} {pts:List Int},ptsK c.segments a r k=some pts→∀ x ∈ pts,0≤x∧x < c.points.length
 | 0,pts,h,x,hx=>by rw [ptsK] at h;rw [← Option.some.inj h,List.mem_singleton] at hx;rw [hx];exact ha
 | k+1,pts,h,x,hx=>by
  obtain ⟨p,h1,h2⟩:=zDv h
  obtain ⟨h0,h3,_,h4⟩:=zDt h2
  rw [h4] at hx
  rcases List.mem_append.1 hx with hx|hx
  ·exact zDy hC ha h1 x hx
  ·rw [List.mem_singleton.1 hx]
   exact ⟨h3,(zC5 hC (by omega) _).1⟩
theorem zDz {l:List Int} {k:Nat} (h:l.length=k+1):l.getLast?.getD 0=l.getD k 0:=by
 rw [List.getLast?_eq_getElem?,h,List.getD_eq_getElem?_getD];rfl
def metV (l:List Int):List Value:=(List.range 8).map fun j:Nat=>.bool (decide ((j:Int) ∈ l))
def metC (l:List Int):List SC:=(metV l).map .v
theorem zDA {l:List Int}:(metV l).length=8:=by rw [metV,List.length_map,List.length_range]
theorem zDB {l:List Int}:(metC l).length=8:=by rw [metC,List.length_map,zDA]
theorem zDC {l:List Int} {x:Int} (h:0≤x∧x < 8):List.take x.toNat (metC l) ++ SC.v (.bool true) :: List.drop (x.toNat+1) (metC l)=metC (l ++ [x]):=by
 rw [zCV (by rw [zDB];omega)]
 apply List.ext_getElem
 ·rw [List.length_set,zDB,zDB]
 ·intro i h1 h2
  rw [zDB] at h2
  simp only [metC,metV,List.getElem_set,List.getElem_map,List.getElem_range,List.mem_append,List.mem_singleton]
  by_cases e:x.toNat=i
  ·rw [if_pos e,decide_eq_true (.inr (by omega))]
  ·rw [if_neg e]
   congr 2
   rw [decide_eq_decide]
   exact ⟨.inl,fun h=>h.resolve_right (by omega)⟩
theorem zDD {l:List Int} {x:Int} (h:0≤x∧x < 8):(metC l).getD x.toNat (.v undef)=.v (.bool (decide (x ∈ l))):=by
 have hx:x.toNat < (metC l).length:=by rw [zDB];omega
 rw [List.getD_eq_getElem?_getD,List.getElem?_eq_getElem hx]
 simp only [metC,metV,List.getElem_map,List.getElem_range,Option.getD_some,Int.toNat_of_nonneg h.1]
theorem zDG {c:zOv} {a:Int} {r:List Int} (h:¬ (0≤a∧a < c.points.length)):zC1 c a r=none:=by rw [zC1,if_neg h]
theorem zDH {c:zOv} {a:Int} {r:List Int} (h:0≤a∧a < c.points.length):zC1 c a r=ptsK c.segments a r r.length:=by rw [zC1,if_pos h]
theorem zDI (c:DChart) (a:Int) (r:Sl Int) (h:Hp) (hc:Enc.ok h c) (hr:r.Ok h) (hC:zz9 (Con.con c)=true) (hz:r.l.length≤1048576):Ct jV 241 [c.v,.int .i64 a,r.val] h fun v h'=>∃ s:Sl Int,v=.tuple #[s.val,.bool (zC1 (Con.con c) a r.l).isSome]∧s.l=(zC1 (Con.con c) a r.l).getD []∧s.Ok h':=by
 have hl:=hr.max
 obtain ⟨h8,hsp⟩:=zC4 hC
 have hgm:=hc.2.max
 have hsl:(Con.con c).segments=c.segments.l:=zAX c
 have hpl:(Con.con c).points=c.points.l:=zC6 c
 refine zdn (fun A W=>by simp) Tryz.func241 rfl rfl (by simp) fun W0=>?_
 repeat' first|refine Wa ?_|refine zhF (fun _=>zzn _ _ _) ?_|(simp only [go_sem,jq,jj,jy,jv,jk,jx];try rfl)|refine Wb ?_|fail
 refine zc9 rfl (fun hx=>?_) (fun hx=>?_)
 ·have hin:¬ (0≤a∧a < (Con.con c).points.length):=by
   rw [hpl];rw [Bool.not_eq_true',Bool.and_eq_false_iff,decide_eq_false_iff_not,decide_eq_false_iff_not] at hx;omega
  refine Wk ?_
  rw [zDG hin]
  exact ⟨⟨none,0,[]⟩,rfl,rfl,znp⟩
 have hin:0≤a∧a < (Con.con c).points.length:=by
  rw [hpl];rw [Bool.not_eq_false',jJ,decide_eq_true_eq,decide_eq_true_eq] at hx;omega
 obtain ⟨ha0,ha1⟩:=hin
 have ha8:a < ((8:Nat):Int):=by omega
 have ha7:a.toNat≤7:=by omega
 rw [zDH ⟨ha0,ha1⟩,hsl]
 repeat' first|refine Wa ?_|(simp only [go_sem,jq,jj,jy,jv,jk,jx,ha0,ha8,ha7,Nat.zero_add,Nat.mul_one,implies_true,true_and];try rfl)|refine Wb ?_|fail
 refine zm1 (ι:=Nat × List Int) (fun i=>⟨[(1,true,.c (.v (.int .i64 (i.2.getLast?.getD 0)))),(3,true,.c (.p 0 0)),(6,true,.c (.v (.slice none 0 0))),(7,true,.c (.v (.bool false))),(8,true,.c (.p 1 0)),(9,true,.c (.s 2)),(22,true,.c (.v r.val)),(23,true,.c (.v (.int .i64 r.l.length))),(24,true,.c (.v (.int .i64 i.1)))],[(0,.box 53 [.v c.points.val,.v c.segments.val]),(1,.box 292 (metC i.2)),(2,.row 3 1 i.2.length (i.2.flatMap Enc.enc))],h,3⟩) (fun i=>i.1≤r.l.length∧ptsK c.segments.l a r.l i.1=some i.2) (fun i=>r.l.length - i.1) (0,[a]) ⟨Nat.zero_le _,rfl⟩ [0,1,2] ?_ ?_
 ·refine Evs ?_
  refine ⟨⟨rfl,rfl⟩,congrArg some (congrArg _ (zDC (l:=[]) ⟨ha0,by omega⟩)),?_⟩
  exact Gk
 rintro ⟨k,l⟩ ⟨hkn,hpt⟩
 simp only at hkn hpt
 have hlen:=zDw hpt
 have hpi:=zDy hC (a:=a) ⟨ha0,ha1⟩ (r:=r.l) (k:=k) (pts:=l) (by rw [hsl];exact hpt)
 refine Wk ?_
 refine zc9 rfl (fun hd=>?_) (fun hd=>?_)
 ·have hlt:=zjH hd
  have hnx:=zDu hlt hpt
  have hno:zC0 c.segments.l l r.l[k]=none→ptsK c.segments.l a r.l r.l.length=none:=fun e=>zC3 (k:=k+1) (by rw [hnx,e]) hlt
  repeat' first|refine Wa ?_|refine zhF (fun _=>zzn _ _ _) ?_|(simp only [go_sem,jq,jj,jy,jv,jk,jx,zkR hr hlt,hr.some hlt,hlt,jW];try rfl)|refine Wb ?_|fail
  obtain ⟨x,hxe⟩:∃ x,r.l[k]=x:=⟨_,rfl⟩
  rw [hxe] at hnx hno ⊢
  refine zc9 rfl (fun hx=>?_) (fun hx=>?_)
  ·have hin:¬ (0≤x∧x < c.segments.l.length):=by
    rw [Bool.not_eq_true',Bool.and_eq_false_iff,decide_eq_false_iff_not,decide_eq_false_iff_not] at hx;omega
   refine Wk ?_
   rw [hno (by rw [zC0,if_neg hin])]
   exact ⟨⟨none,0,[]⟩,rfl,rfl,znp⟩
  have hin:0≤x∧x < c.segments.l.length:=by
   rw [Bool.not_eq_false',jJ,decide_eq_true_eq,decide_eq_true_eq] at hx;omega
  obtain ⟨hx0,hx1⟩:=hin
  have hsi:x.toNat < c.segments.l.length:=by omega
  obtain ⟨y,hye⟩:∃ y,zCZ c.segments.l[x.toNat] (l.getLast?.getD 0)=y:=⟨_,rfl⟩
  have hst:zC0 c.segments.l l x=if y < 0∨y ∈ l then none else some (l ++ [y]):=by
   rw [zC0,if_pos ⟨hx0,hx1⟩,gget hsi,hye]
  have hy8:y < ((8:Nat):Int):=by
   have:=(zC5 hC (i:=x.toNat) (by rw [hsl];exact hsi) (l.getLast?.getD 0)).1
   rw [hsl,gget hsi,hye] at this
   omega
  repeat' first|refine Wa ?_|refine zhF (fun _=>zC7 c.segments.l[x.toNat] (l.getLast?.getD 0) _) ?_|(simp only [go_sem,jq,jj,jy,jv,jk,jx,zlh hc.2 hsi,hc.2.some hsi,zmT hc.2 hsi,hsi,hx0,hx1,jW,jY,implies_true,true_and,and_true,and_self];try rfl)|refine Wb ?_|fail
  rw [hye]
  by_cases hy:y < 0
  ·repeat' first|refine Wa ?_|(simp only [go_sem,jq,jj,jy,jv,jk,jx,eq_true hy,reduceCtorEq,decide_true,decide_false,Bool.not_true,Bool.not_false,Bool.true_or,Bool.false_or,Bool.false_eq_true,false_implies,implies_true,true_and];try rfl)|refine Wb ?_|fail
   refine zc9 rfl (fun hz=>?_) (fun hz=>?_)
   case refine_2=>cases hz
   refine Wk ?_
   rw [hno (by rw [hst,if_pos (.inl hy)])]
   exact ⟨⟨none,0,[]⟩,rfl,rfl,znp⟩
  have hy0:0≤y:=by omega
  have hy7:y.toNat≤7:=by omega
  have hy9:y.toNat < 8:=by omega
  have hgt:=zDD (l:=l) (x:=y) ⟨hy0,by omega⟩
  have hst2:=zDC (l:=l) (x:=y) ⟨hy0,by omega⟩
  repeat' first|refine Wa ?_|(simp only [go_sem,jq,jj,jy,jv,jk,jx,eq_false hy,reduceCtorEq,hy0,hy8,hy7,hy9,hgt,zDB,Nat.zero_add,Nat.mul_one,decide_true,decide_false,Bool.not_true,Bool.not_false,Bool.true_or,Bool.false_or,Bool.false_eq_true,false_implies,implies_true,true_and];try rfl)|refine Wb ?_|fail
  refine zc9 rfl (fun hz=>?_) (fun hz=>?_)
  ·have hz:y ∈ l:=of_decide_eq_true hz
   refine Wk ?_
   rw [hno (by rw [hst,if_pos (.inr hz)])]
   exact ⟨⟨none,0,[]⟩,rfl,rfl,znp⟩
  have hz:¬ (y < 0∨y ∈ l):=not_or.2 ⟨hy,of_decide_eq_false hz⟩
  rw [if_neg hz] at hst
  repeat' first|refine Wa ?_|(simp only [go_sem,jq,jj,jy,jv,jk,jx,hy0,hy8,hy7,hy9,hst2,zDB,Nat.zero_add,Nat.mul_one,implies_true,true_and];try rfl)|refine Wb ?_|fail
  refine ⟨by simp only [maxLen];omega,by omega,?_⟩
  refine Wk ?_
  refine ⟨(k+1,l ++ [y]),[0,1,4],⟨hlt,by rw [hnx,hst]⟩,by simp only;omega,?_⟩
  refine Evs ?_
  simp only [List.flatMap_append,List.length_append,List.getLast?_concat,Option.getD_some]
  exact Gi (zjA hlt (by omega))
 ·have hge:=zjI hd
  obtain rfl:k=r.l.length:=by omega
  refine zc6 ?_
  refine Evs ?_
  refine zCP 2 l rfl rfl rfl rfl fun s h' e1 R f1 l1 k1=>?_
  refine Wk ?_
  rw [hpt]
  refine ⟨s,rfl,e1,R.ok (by decide) fun x hx=>?_⟩
  have:=hpi x (by rw [← e1];exact hx)
  show I64 _;unfold I64;omega
def zDJ (c:zOv) (a:Int) (r:List Int):Bool:=(zC2 c a r).isSome
theorem zDK {c:zOv} {a:Int} {r:List Int} (h:zz9 c=false):zC2 c a r=none:=by rw [zC2,if_neg (by rw [h];exact Bool.false_ne_true)]
theorem zDL {c:zOv} {a:Int} {r:List Int} (h:zz9 c=true):zC2 c a r=zC1 c a r:=by rw [zC2,if_pos h]
theorem zDN {c:zOv} {a:Int} {r:List Int} (h:zDJ c a r=true):zz9 c=true∧(0≤a∧a < c.points.length)∧∃ l,zC2 c a r=some l∧ptsK c.segments a r r.length=some l∧l.length=r.length+1∧∀ x ∈ l,0≤x∧x < c.points.length:=by
 cases hC:zz9 c with
 | false=>rw [zDJ,zDK hC] at h;cases h
 | true =>
  obtain ⟨l,hl⟩:=Option.isSome_iff_exists.1 h
  have h2:=hl
  rw [zDL hC,zC1] at h2
  split at h2
  ·rename_i ha
   exact ⟨rfl,ha,l,hl,h2,zDw h2,zDy hC ha h2⟩
  ·cases h2
theorem zDO {g:List DSegment} {a:Int} {r:List Int}:∀ {k:Nat} {l:List Int},ptsK g a r k=some l→k≤r.length→∀ i (hi:i < r.length),i < k→0≤r[i]∧r[i] < g.length
 | 0,l,h,hk,i,hi,hik=>absurd hik (Nat.not_lt_zero _)
 | k+1,l,h,hk,i,hi,hik=>by
  obtain ⟨p,h1,h2⟩:=zDv h
  have h0:=(zDt h2).1
  rcases Nat.lt_or_ge i k with h3|h3
  ·exact zDO h1 (by omega) i hi h3
  ·obtain rfl:i=k:=by omega
   rwa [List.getD_eq_getElem?_getD,List.getElem?_eq_getElem hi] at h0
theorem zDQ (c:DChart) (a:Int) (r:Sl Int) (h:Hp) (hc:Enc.ok h c) (ha:I64 a) (hr:r.Ok h) (hz:r.l.length≤1048576):Ct jV 242 [c.v,.int .i64 a,r.val] h fun v h'=>v=.bool (zDJ (Con.con c) a r.l)∧h'=h:=by
 refine Ct.forget ?_
 refine zdn (fun A W=>by simp) Tryz.func242 rfl rfl (by simp) fun W0=>?_
 repeat' first|refine Wa ?_|refine zhF (fun _=>zAi c _ hc) ?_|(simp only [go_sem,jq,jj,jy,jv,jk,jx];try rfl)|refine Wb ?_|fail
 refine zc9 rfl (fun hx=>?_) (fun hx=>?_)
 ·rw [Bool.not_eq_true'] at hx
  refine Wk ?_
  rw [zDJ,zDK hx];rfl
 rw [Bool.not_eq_false'] at hx
 refine Wk ?_
 refine zkr (zDI c a r _ hc hr hx hz) rfl ?_
 rintro v h1 le1 ⟨s,rfl,e1,ok1⟩
 refine Wk ?_
 rw [zDJ,zDL hx]
theorem zDS (c:DChart) (a:Int) (r:Sl Int) (h:Hp) (hc:Enc.ok h c) (ha:I64 a) (hr:r.Ok h) (hz:r.l.length≤1048576):Ct jV 202 [c.v,.int .i64 a,r.val] h fun v h'=>∃ s:Sl Int,v=s.val∧s.l=(zC2 (Con.con c) a r.l).getD []∧s.Ok h':=by
 refine zdn (fun A W=>by simp) Tryz.func202 rfl rfl (by simp) fun W0=>?_
 repeat' first|refine Wa ?_|refine zhF (fun _=>zAi c _ hc) ?_|(simp only [go_sem,jq,jj,jy,jv,jk,jx];try rfl)|refine Wb ?_|fail
 refine zc9 rfl (fun hx=>?_) (fun hx=>?_)
 ·rw [Bool.not_eq_true'] at hx
  refine Wk ?_
  rw [zDK hx]
  exact ⟨⟨none,0,[]⟩,rfl,rfl,znp⟩
 rw [Bool.not_eq_false'] at hx
 refine Wk ?_
 refine zkr (zDI c a r _ hc hr hx hz) rfl ?_
 rintro v h1 le1 ⟨s,rfl,e1,ok1⟩
 refine Wk ?_
 exact ⟨s,rfl,by rw [e1,zDL hx],ok1⟩
def zDT (g:List DSegment) (acc s:Int):Int:=IntKind.i64.wrap (acc+(g.getD s.toNat dG).minutes)
def rmOk (n:Nat) (r:List Int) (i:Nat):Bool:=decide (0≤r.getD i 0∧r.getD i 0 < n)
def zDU (c:zOv) (r:List Int):Int:=if zz9 c=true∧∀ i,i < r.length→rmOk c.segments.length r i=true then r.foldl (zDT c.segments) 0 else -1
theorem zDV {c:zOv} {r:List Int} (h:¬ (zz9 c=true∧∀ i,i < r.length→rmOk c.segments.length r i=true)):zDU c r=-1:=by rw [zDU,if_neg h]
theorem iget {l:List Int} {i:Nat} (hi:i < l.length):l.getD i 0=l[i]:=by simp [List.getD_eq_getElem?_getD,hi]
theorem zDW {c:zOv} {r:List Int} (h:¬ zDU c r < 0):zz9 c=true∧∀ i,i < r.length→rmOk c.segments.length r i=true:=by
 rw [zDU] at h
 split at h
 ·assumption
 ·omega
theorem zDY (c:DChart) (r:Sl Int) (h:Hp) (hc:Enc.ok h c) (hr:r.Ok h):Ct jV 201 [c.v,r.val] h fun v h'=>v=.int .i64 (zDU (Con.con c) r.l)∧h'=h:=by
 have hl:=hr.max
 have hgm:=hc.2.max
 have hsl:(Con.con c).segments=c.segments.l:=zAX c
 refine zdn (fun A W=>by simp) Tryz.func201 rfl rfl (by simp) fun W0=>?_
 repeat' first|refine Wa ?_|refine zhF (fun _=>zAi c _ hc) ?_|(simp only [go_sem,jq,jj,jy,jv,jk,jx];try rfl)|refine Wb ?_|fail
 refine zc9 rfl (fun hx=>?_) (fun hx=>?_)
 ·rw [Bool.not_eq_true'] at hx
  refine Wk ?_
  rw [zDV (fun H=>by rw [hx] at H;cases H.1)]
 rw [Bool.not_eq_false'] at hx
 have hC:=hx
 refine Wk ?_
 refine zde (ι:=Nat) (fun k=>⟨[(2,true,.c (.p 0 0)),(4,true,.c (.v (.int .i64 0))),(5,true,.c (.v (.int .i64 ((r.l.take k).foldl (zDT c.segments.l) 0)))),(11,true,.c (.v r.val)),(12,true,.c (.v (.int .i64 r.l.length))),(13,true,.c (.v (.int .i64 k)))],[(0,.box 53 [.v c.points.val,.v c.segments.val])],h,1⟩) (fun k=>k≤r.l.length∧∀ i,i < k→rmOk c.segments.l.length r.l i=true) (fun k=>r.l.length - k) 0 ⟨Nat.zero_le _,zAe⟩ ?_ ?_
 ·refine Evs ?_
  exact Gk
 intro k hk
 refine Wk ?_
 refine zc9 rfl (fun hd=>?_) (fun hd=>?_)
 ·have hlt:=zjH hd
  repeat' first|refine Wa ?_|refine zhF (fun _=>zzn _ _ _) ?_|(simp only [go_sem,jq,jj,jy,jv,jk,jx,zkR hr hlt,hr.some hlt,hlt,jW];try rfl)|refine Wb ?_|fail
  skip
  refine zc9 rfl (fun hx=>?_) (fun hx=>?_)
  ·refine Wk ?_
   rw [zDV (fun H=>by
    have:=H.2 k hlt
    rw [rmOk,iget hlt,hsl,decide_eq_true_eq] at this
    rw [Bool.not_eq_true',Bool.and_eq_false_iff,decide_eq_false_iff_not,decide_eq_false_iff_not] at hx;omega)]
  have hin:0≤r.l[k]∧r.l[k] < c.segments.l.length:=by
   rw [Bool.not_eq_false',jJ,decide_eq_true_eq,decide_eq_true_eq] at hx;omega
  obtain ⟨hx0,hx1⟩:=hin
  have hsi:r.l[k].toNat < c.segments.l.length:=by omega
  repeat' first|refine Wa ?_|(simp only [go_sem,jq,jj,jy,jv,jk,jx,zmT hc.2 hsi,hc.2.some hsi,hsi,hx0,hx1,implies_true,true_and,and_true,and_self];try rfl)|refine Wb ?_|fail
  refine ⟨k+1,⟨hlt,zAc hk.2 (by rw [rmOk,iget hlt];exact decide_eq_true ⟨hx0,hx1⟩)⟩,by omega,?_⟩
  rw [zBG hlt]
  refine ⟨?_,zjB (zjA hlt (by omega))⟩
  simp only [zDT,gget hsi]
 ·have hge:=zjI hd
  refine Wk ?_
  rw [zDU,if_pos ⟨hC,fun i hi=>by rw [hsl];exact hk.2 i (by omega)⟩,hsl,List.take_of_length_le hge]
def dQ:DPassage:=⟨0,0,false,0,0⟩
theorem qget {l:List DPassage} {i:Nat} (hi:i < l.length):l.getD i dQ=l[i]:=by simp [List.getD_eq_getElem?_getD,hi]
def chIn (n:Nat) (l:List DPassage) (i:Nat):Bool:=decide ((l.getD i dQ).ship=(l.getD 0 dQ).ship) && decide (0≤(l.getD i dQ).seg∧(l.getD i dQ).seg < (n:Int))
def chTo (c:zOv) (l:List DPassage) (i:Nat):Bool:=decide (i=0) || (decide ((zAT c (l.getD i dQ)).1=(zAT c (l.getD (i - 1) dQ)).2) && decide ((l.getD (i - 1) dQ).fin≤(l.getD i dQ).start))
def chOk (c:zOv) (l:List DPassage) (i:Nat):Bool:=chIn c.segments.length l i && chTo c l i
def zDZ (c:zOv) (l:List DPassage):Bool:=zz9 c && decide (∀ i,i < l.length→chOk c l i=true)
theorem zD0 (c:DChart):(Con.con c).segments.length=c.segments.l.length:=by rw [zAX]
theorem zD1 {n:Nat} {l:List DPassage} {i:Nat} (hi:i < l.length) (h:chIn n l i=true):0≤l[i].seg∧l[i].seg < (n:Int):=by
 rw [chIn,qget hi] at h
 exact of_decide_eq_true (Bool.and_eq_true_iff.1 h).2
theorem zD2 {c:DChart} {l:List DPassage} {i:Nat} (h:chOk (Con.con c) l i=true):chIn c.segments.l.length l i=true:=by
 rw [chOk,zD0] at h
 exact (Bool.and_eq_true_iff.1 h).1
@[go_sem] theorem zD7 (t1 fs d t p af gd tk):ziY (⟨d,.build t1 fs,t,p,af,gd⟩:Oper) tk=⟨d,.build t1 fs,t,p,af,gd⟩ :: tk:=rfl
def pOk (c:zOv) (f:List DShip) (l:List DPassage) (i:Nat):Bool:=zAW c f (l.getD i dQ)
def zD8 (c:zOv) (p q:DPassage):DDuty:=⟨p.start,q.fin,(zAT c p).1,(zAT c q).2⟩
def zD9 (c:zOv) (f:List DShip) (l:List DPassage):DDuty × Bool :=
 if (decide (0 < l.length) && zDZ c l && decide (∀ i,i < l.length→pOk c f l i=true))=true then (zD8 c (l.getD 0 dQ) (l.getD (l.length - 1) dQ),true) else (⟨0,0,0,0⟩,false)
theorem zEb {c:zOv} {f:List DShip} {l:List DPassage} (h1:0 < l.length) (h2:zDZ c l=true) (h3:∀ i,i < l.length→pOk c f l i=true):zD9 c f l=(zD8 c (l.getD 0 dQ) (l.getD (l.length - 1) dQ),true):=by rw [zD9,if_pos (by rw [decide_eq_true h1,h2,decide_eq_true h3];rfl)]
theorem zEc {c:DChart} {l:List DPassage} (h:zDZ (Con.con c) l=true) {i:Nat} (hi:i < l.length):0≤l[i].seg∧l[i].seg < (c.segments.l.length:Int) :=
 zD1 hi (zD2 (of_decide_eq_true (Bool.and_eq_true_iff.1 h).2 i hi))
theorem zEd (c:DChart) (p q:DPassage) (h:Hp) (hc:Enc.ok h c) (h1:0≤p.seg) (h2:p.seg < c.segments.l.length) (h3:0≤q.seg) (h4:q.seg < c.segments.l.length):Ct jV 208 [c.v,p.v,q.v] h fun v h'=>v=(zD8 (Con.con c) p q).v∧h'=h:=by
 refine zdn (fun A W=>by simp) Tryz.func208 rfl rfl (by simp) fun W0=>?_
 repeat' first|refine Wa ?_|refine zhF (fun _=>zA0 c p _ hc h1 h2) ?_|refine zhF (fun _=>zA0 c q _ hc h3 h4) ?_|(simp only [go_sem,jq,jj,jy,jv,jk,jx];try rfl)|refine Wb ?_|fail
theorem zEf (s:Sl DPassage):Con.con s=s.l:=List.map_id _
theorem i64z:I64 0:=by unfold I64;omega
theorem zEg {c:DChart} {f:List DShip} {a:Sl DPassage} {h h2:Hp} (hc:Enc.ok h c) (ha:a.Ok h):Enc.ok h2 (zD9 (Con.con c) f (Con.con a)).1:=by
 rw [zEf,zD9]
 split
 ·rename_i hq
  simp only [jJ,decide_eq_true_eq] at hq
  obtain ⟨⟨h0,hC⟩,-⟩:=hq
  have hn1:a.l.length - 1 < a.l.length:=by omega
  obtain ⟨h1,h2⟩:=zEc hC h0
  obtain ⟨h3,h4⟩:=zEc hC hn1
  have hs1:a.l[0].seg.toNat < c.segments.l.length:=by omega
  have hs2:a.l[a.l.length - 1].seg.toNat < c.segments.l.length:=by omega
  have o1:=ha.el h0
  have o2:=ha.el hn1
  have o3:=hc.2.el hs1
  have o4:=hc.2.el hs2
  show I64 _∧I64 _∧I64 _∧I64 _
  rw [zD8,qget h0,qget hn1,zAY _ _ hs1,zAY _ _ hs2]
  refine ⟨o1.2.2.1,o2.2.2.2,?_,?_⟩
  ·dsimp only;split
   ·exact o3.1
   ·exact o3.2.1
  ·dsimp only;split
   ·exact o4.2.1
   ·exact o4.1
 ·exact ⟨i64z,i64z,i64z,i64z⟩
def arOk (c:zOv) (s:DShip) (r st:List Int):Bool:=!decide (zDU c r < 0) && zAk s && decide (0 < r.length) && decide (r.length=st.length)
def zEh (c:zOv) (s:DShip) (r st:List Int):Int :=
 if arOk c s r st=true then (if In (st.getD (r.length - 1) 0) 0 2880=true then IntKind.i64.wrap (st.getD (r.length - 1) 0+zAU s (c.segments.getD (r.getD (r.length - 1) 0).toNat dG)) else -1) else -1
theorem zEi {c:zOv} {s:DShip} {r st:List Int} (h:arOk c s r st=false):zEh c s r st=-1:=by rw [zEh,if_neg (by rw [h];exact Bool.false_ne_true)]
def zEj (c:zOv) (ship:Int) (s:DShip) (pts r st:List Int) (i:Nat):DPassage :=
 ⟨ship,r.getD i 0,pts.getD i 0 == (c.segments.getD (r.getD i 0).toNat dG).a,st.getD i 0,IntKind.i64.wrap (st.getD i 0+zAU s (c.segments.getD (r.getD i 0).toNat dG))⟩
def pasL (c:zOv) (ship:Int) (s:DShip) (pts r st:List Int) (k:Nat):List DPassage:=(List.range k).map (zEj c ship s pts r st)
def zEk (c:zOv) (s:DShip) (a:Int) (r st:List Int):Bool:=zDJ c a r && zAk s && decide (r.length=st.length)
def zEl (c:zOv) (ship:Int) (s:DShip) (a:Int) (r st:List Int):List DPassage :=
 if zEk c s a r st=true∧(∀ i,i < r.length→In (st.getD i 0) 0 2880=true) then pasL c ship s ((zC2 c a r).getD []) r st r.length else []
theorem zEm {c:zOv} {ship:Int} {s:DShip} {a:Int} {r st:List Int} (h:¬ (zEk c s a r st=true∧∀ i,i < r.length→In (st.getD i 0) 0 2880=true)):zEl c ship s a r st=[]:=by rw [zEl,if_neg h]
theorem zEn {c:zOv} {ship:Int} {s:DShip} {pts r st:List Int} {k:Nat}:pasL c ship s pts r st (k+1)=pasL c ship s pts r st k ++ [zEj c ship s pts r st k]:=by rw [pasL,List.range_succ,List.map_append];rfl
theorem zEo {c:zOv} {ship:Int} {s:DShip} {pts r st:List Int} {k:Nat}:(pasL c ship s pts r st k).length=k:=by rw [pasL,List.length_map,List.length_range]
theorem zEp {c:DChart} {ship:Int} {s:DShip} {pts:List Int} {r st:Sl Int} {h h2:Hp} (hs:I64 ship) (hr:r.Ok h) (hst:st.Ok h) {k:Nat} (hk:k≤r.l.length) (hk2:k≤st.l.length):∀ x ∈ pasL (Con.con c) ship s pts r.l st.l k,Enc.ok h2 x:=fun x hx=>by
 obtain ⟨i,hi,rfl⟩:=List.mem_map.1 hx
 have hi:=List.mem_range.1 hi
 have h1:i < r.l.length:=by omega
 have h2:i < st.l.length:=by omega
 refine ⟨hs,?_,?_,i64w _⟩
 ·show I64 (r.l.getD i 0);rw [iget h1];exact hr.el h1
 ·show I64 (st.l.getD i 0);rw [iget h2];exact hst.el h2
theorem zEs (c:DChart) (s:DShip) (r t:Sl Int) (h:Hp) (hc:Enc.ok h c) (hs:Enc.ok h s) (hr:r.Ok h) (ht:t.Ok h):Ct jV 206 [c.v,s.v,r.val,t.val] h fun v h'=>v=.int .i64 (zEh (Con.con c) s r.l t.l)∧h'=h:=by
 have hl:=hr.max
 have hl2:=ht.max
 have hsl:(Con.con c).segments=c.segments.l:=zAX c
 refine zdn (fun A W=>by simp) Tryz.func206 rfl rfl (by simp) fun W0=>?_
 repeat' first|refine Wa ?_|refine zhF (fun _=>zDY c r _ hc hr) ?_|refine zhF (fun _=>zAv s _ hs) ?_|(simp only [go_sem,jq,jj,jy,jv,jk,jx];try rfl)|refine Wb ?_|fail
 refine zc9 rfl (fun hx=>?_) (fun hx=>?_)
 ·rw [zEi (by
   rw [arOk]
   simp only [jQ,Bool.not_eq_true',beq_iff_eq,bne_iff_ne] at hx
   rw [Bool.and_eq_false_iff,Bool.and_eq_false_iff,Bool.and_eq_false_iff,Bool.not_eq_false',decide_eq_false_iff_not,decide_eq_false_iff_not,decide_eq_true_eq]
   rcases hx with ((hx|hx)|hx)|hx
   ·exact .inl (.inl (.inl (of_decide_eq_true hx)))
   ·exact .inl (.inl (.inr hx))
   ·first|exact .inl (.inr (by omega))|exact .inr (by omega)
   ·first|exact .inr (by omega)|exact .inl (.inr (by omega)))]
  exact Wk0
 have hok:arOk (Con.con c) s r.l t.l=true:=by
  rw [arOk]
  simp only [jp,Bool.not_eq_false',beq_eq_false_iff_ne,bne_eq_false_iff_eq,ne_eq] at hx
  obtain ⟨⟨⟨h1,h2⟩,h3⟩,h4⟩:=hx
  have h1:=of_decide_eq_false h1
  rw [jJ,jJ,jJ,Bool.not_eq_true',decide_eq_false_iff_not,decide_eq_true_eq,decide_eq_true_eq]
  exact ⟨⟨⟨h1,h2⟩,by omega⟩,by omega⟩
 have hok2:=hok
 rw [arOk,jJ,jJ,jJ,Bool.not_eq_true',decide_eq_false_iff_not,decide_eq_true_eq,decide_eq_true_eq] at hok2
 obtain ⟨⟨⟨hm,hS⟩,h0⟩,hle⟩:=hok2
 obtain ⟨n,hn⟩:∃ n,r.l.length=n+1:=⟨r.l.length - 1,by omega⟩
 have hn1:n < r.l.length:=by omega
 have hn2:n < t.l.length:=by omega
 have hn1i:(n:Int) < r.l.length:=by omega
 have hn2i:(n:Int) < t.l.length:=by omega
 have hn1w:IntKind.i64.wrap ((r.l.length:Int) - 1)=(n:Int):=by rw [zjz (by omega)];omega
 have hn2w:IntKind.i64.wrap ((t.l.length:Int) - 1)=(n:Int):=by rw [zjz (by omega)];omega
 have hin:=(zDW hm).2 n hn1
 rw [rmOk,iget hn1,decide_eq_true_eq,hsl] at hin
 obtain ⟨hx0,hx1⟩:=hin
 have hsi:r.l[n].toNat < c.segments.l.length:=by omega
 have hF:zEh (Con.con c) s r.l t.l=if In t.l[n] 0 2880=true then IntKind.i64.wrap (t.l[n]+zAU s c.segments.l[r.l[n].toNat]) else -1:=by
  rw [zEh,if_pos hok,hn,Nat.add_sub_cancel,iget hn1,iget hn2,hsl,gget hsi]
 rw [hF]
 repeat' first|refine Wa ?_|refine zhF (fun _=>zzm _ _) ?_|(simp only [go_sem,jq,jj,jy,jv,jk,jx,hn1w,hn2w,zkR hr hn1,hr.some hn1,hn1,hn1i,zkR ht hn2,ht.some hn2,hn2,hn2i,zmT hc.2 hsi,zlh hc.2 hsi,hc.2.some hsi,hsi,hx0,hx1,jW,jY,implies_true,true_and,and_true,and_self];try rfl)|refine Wb ?_|fail
 refine zc9 rfl (fun hy=>?_) (fun hy=>?_)
 ·rw [Bool.not_eq_true'] at hy
  rw [if_neg (by rw [In,hy];exact Bool.false_ne_true)]
  exact Wk0
 rw [Bool.not_eq_false'] at hy
 rw [if_pos (by rw [In,hy])]
 repeat' first|refine Wa ?_|(simp only [go_sem,jq,jj,jy,jv,jk,jx,hn1w,hn2w,zkR hr hn1,hr.some hn1,hn1,hn1i,zkR ht hn2,ht.some hn2,hn2,hn2i,zmT hc.2 hsi,zlh hc.2 hsi,hc.2.some hsi,hsi,hx0,hx1,jW,jY,implies_true,true_and,and_true,and_self];try rfl)|refine Wb ?_|fail
 refine zyW rfl ?_
 refine U_t [0,1,4,5,7,8,2,6,9,3,10,11,12] rfl ?_
 simp only [go_sem,jq,jj,jy,jv,jk,jx,hn1w,hn2w,zkR hr hn1,hr.some hn1,hn1,hn1i,zkR ht hn2,ht.some hn2,hn2,hn2i,zmT hc.2 hsi,zlh hc.2 hsi,hc.2.some hsi,hsi,hx0,hx1,jW,jY,implies_true,true_and,and_true,and_self]
 refine U_1 13 0 [3,2] rfl rfl ?_
 simp only [go_sem,jq,jj,jy,jv,jk,jx,hn1w,hn2w,zkR hr hn1,hr.some hn1,hn1,hn1i,zkR ht hn2,ht.some hn2,hn2,hn2i,zmT hc.2 hsi,zlh hc.2 hsi,hc.2.some hsi,hsi,hx0,hx1,jW,jY,implies_true,true_and,and_true,and_self]
 refine zhF (fun _=>zA2 _ _ _) ?_
 simp only [go_sem,jq,jj,jy,jv,jk,jx,hn1w,hn2w,zkR hr hn1,hr.some hn1,hn1,hn1i,zkR ht hn2,ht.some hn2,hn2,hn2i,zmT hc.2 hsi,zlh hc.2 hsi,hc.2.some hsi,hsi,hx0,hx1,jW,jY,implies_true,true_and,and_true,and_self]
 refine U_t [14,15] rfl ?_
 simp only [go_sem,jq,jj,jy,jv,jk,jx,hn1w,hn2w,zkR hr hn1,hr.some hn1,hn1,hn1i,zkR ht hn2,ht.some hn2,hn2,hn2i,zmT hc.2 hsi,zlh hc.2 hsi,hc.2.some hsi,hsi,hx0,hx1,jW,jY,implies_true,true_and,and_true,and_self]
 refine U_d ?_
 exact Wk0
theorem zEt (c:DChart) (ship:Int) (s:DShip) (a:Int) (r t:Sl Int) (h:Hp) (hc:Enc.ok h c) (hsh:I64 ship) (hs:Enc.ok h s) (ha:I64 a) (hr:r.Ok h) (ht:t.Ok h) (hz:r.l.length≤1048576):Ct jV 205 [c.v,.int .i64 ship,s.v,.int .i64 a,r.val,t.val] h fun v h'=>∃ q:Sl DPassage,v=q.val∧q.l=zEl (Con.con c) ship s a r.l t.l∧q.Ok h'∧Mine h h' q:=by
 have hl:=hr.max
 have hsl:(Con.con c).segments=c.segments.l:=zAX c
 refine zdn (fun A W=>by simp) Tryz.func205 rfl rfl (by simp) fun W0=>?_
 repeat' first|refine Wa ?_|refine zhF (fun _=>zDQ c a r _ hc ha hr hz) ?_|refine zhF (fun _=>zAv s _ hs) ?_|(simp only [go_sem,jq,jj,jy,jv,jk,jx];try rfl)|refine Wb ?_|fail
 refine zc9 rfl (fun hx=>?_) (fun hx=>?_)
 ·rw [zEm (fun H=>by
   have h1:=H.1
   rw [zEk,jJ,jJ,decide_eq_true_eq] at h1
   simp only [h1.1.1,h1.1.2,h1.2,Bool.not_true,Bool.or_self,Bool.false_or,bne_self_eq_false,reduceCtorEq] at hx)]
  refine Wk ?_
  exact ⟨⟨none,0,[]⟩,rfl,rfl,znp,Mine.nil⟩
 simp only [jp,Bool.not_eq_false',bne_eq_false_iff_eq] at hx
 obtain ⟨⟨hR,hS⟩,hL⟩:=hx
 have hL:r.l.length=t.l.length:=by omega
 have hok:zEk (Con.con c) s a r.l t.l=true:=by rw [zEk,hR,hS,decide_eq_true hL];rfl
 obtain ⟨hC,hin,pl,hpl,hpk,hplen,hpx⟩:=zDN hR
 refine Wk ?_
 refine zkr (zDS c a r _ hc ha hr hz) rfl ?_
 rintro v h1 le1 ⟨p,rfl,e1,pok⟩
 rw [hpl] at e1
 have e1:p.l=pl:=e1
 have hc1:Enc.ok h1 c:=Enc.mono le1 hc
 have hs1:Enc.ok h1 s:=Enc.mono le1 hs
 have hr1:=hr.mono le1
 have ht1:=ht.mono le1
 refine Wk ?_
 refine zm1 (ι:=Nat) (fun k=>⟨[(1,true,.c (.v (.int .i64 ship))),(5,true,.c (.v t.val)),(6,true,.c (.p 0 0)),(8,true,.c (.p 1 0)),(12,true,.c (.v (.slice none 0 0))),(13,true,.c (.v p.val)),(14,true,.c (.s 2)),(40,true,.c (.v r.val)),(41,true,.c (.v (.int .i64 r.l.length))),(42,true,.c (.v (.int .i64 k)))],[(0,.box 53 [.v c.points.val,.v c.segments.val]),(1,.box 168 [.v (.string s.name),.v (.int .i64 s.length),.v (.int .i64 s.draught),.v (.int .i64 s.line),.v (.int .i64 s.tugs),.v (.bool s.slow)]),(2,.row 154 5 (pasL (Con.con c) ship s p.l r.l t.l k).length ((pasL (Con.con c) ship s p.l r.l t.l k).flatMap Enc.enc))],h1,3⟩) (fun k=>k≤r.l.length∧∀ i,i < k→In (t.l.getD i 0) 0 2880=true) (fun k=>r.l.length - k) 0 ⟨Nat.zero_le _,zAe⟩ [0,1,2] ?_ ?_
 ·refine Evs ?_
  exact Gk
 intro k hk
 refine Wk ?_
 refine zc9 rfl (fun hd=>?_) (fun hd=>?_)
 ·have hlt:=zjH hd
  have hlti:(k:Int) < r.l.length:=by omega
  have hlt2:k < t.l.length:=by omega
  have hlt2i:(k:Int) < t.l.length:=by omega
  have hlt3:k < p.l.length:=by rw [e1];omega
  have hlt3i:(k:Int) < p.l.length:=by omega
  have hseg:=zDO hpk (Nat.le_refl _) k hlt hlt
  rw [hsl] at hseg
  obtain ⟨hx0,hx1⟩:=hseg
  have hsi:r.l[k].toNat < c.segments.l.length:=by omega
  repeat' first|refine Wa ?_|refine zhF (fun _=>zzm _ _) ?_|(simp only [go_sem,jq,jj,jy,jv,jk,jx,zkR hr1 hlt,hr1.some hlt,hlt,hlti,zkR ht1 hlt2,ht1.some hlt2,hlt2,hlt2i,jW,jY];try rfl)|refine Wb ?_|fail
  refine zc9 rfl (fun hy=>?_) (fun hy=>?_)
  ·rw [Bool.not_eq_true'] at hy
   rw [zEm (fun H=>by
    have:=H.2 k hlt
    rw [iget hlt2,In,hy] at this;cases this)]
   refine Wk ?_
   exact ⟨⟨none,0,[]⟩,rfl,rfl,znp,Mine.nil⟩
  rw [Bool.not_eq_false'] at hy
  have hplk:=zEo (c:=Con.con c) (ship:=ship) (s:=s) (pts:=p.l) (r:=r.l) (st:=t.l) (k:=k)
  have hat:zEj (Con.con c) ship s p.l r.l t.l k=⟨ship,r.l[k],p.l[k] == c.segments.l[r.l[k].toNat].a,t.l[k],IntKind.i64.wrap (t.l[k]+zAU s c.segments.l[r.l[k].toNat])⟩:=by
   rw [zEj,iget hlt,iget hlt2,iget hlt3,hsl,gget hsi]
  repeat' first|refine Wa ?_|(simp only [go_sem,jq,jj,jy,jv,jk,jx,zkR pok hlt3,pok.some hlt3,hlt3,hlt3i,zkR hr1 hlt,hr1.some hlt,hlt,hlti,zkR ht1 hlt2,ht1.some hlt2,hlt2,hlt2i,jW,jY,zmT hc1.2 hsi,zlh hc1.2 hsi,hc1.2.some hsi,hsi,hx0,hx1,implies_true,true_and,and_true,and_self];try rfl)|refine Wb ?_|fail
  refine zyW rfl ?_
  refine U_t [0,1,2,3,4,7,10,11,14,15,18,19,5,8,12,16,6,13,17,9] rfl ?_
  simp only [go_sem,jq,jj,jy,jv,jk,jx,zkR pok hlt3,pok.some hlt3,hlt3,hlt3i,zkR hr1 hlt,hr1.some hlt,hlt,hlti,zkR ht1 hlt2,ht1.some hlt2,hlt2,hlt2i,jW,jY,zmT hc1.2 hsi,zlh hc1.2 hsi,hc1.2.some hsi,hsi,hx0,hx1,implies_true,true_and,and_true,and_self]
  refine U_1 20 0 [9,17,13,6,16,12,8,5,7] rfl rfl ?_
  simp only [go_sem,jq,jj,jy,jv,jk,jx,zkR pok hlt3,pok.some hlt3,hlt3,hlt3i,zkR hr1 hlt,hr1.some hlt,hlt,hlti,zkR ht1 hlt2,ht1.some hlt2,hlt2,hlt2i,jW,jY,zmT hc1.2 hsi,zlh hc1.2 hsi,hc1.2.some hsi,hsi,hx0,hx1,implies_true,true_and,and_true,and_self]
  refine zhF (fun _=>zA2 _ _ _) ?_
  simp only [go_sem,jq,jj,jy,jv,jk,jx,zkR pok hlt3,pok.some hlt3,hlt3,hlt3i,zkR hr1 hlt,hr1.some hlt,hlt,hlti,zkR ht1 hlt2,ht1.some hlt2,hlt2,hlt2i,jW,jY,zmT hc1.2 hsi,zlh hc1.2 hsi,hc1.2.some hsi,hsi,hx0,hx1,implies_true,true_and,and_true,and_self]
  refine U_t [21] rfl ?_
  simp only [go_sem,jq,jj,jy,jv,jk,jx,zkR pok hlt3,pok.some hlt3,hlt3,hlt3i,zkR hr1 hlt,hr1.some hlt,hlt,hlti,zkR ht1 hlt2,ht1.some hlt2,hlt2,hlt2i,jW,jY,zmT hc1.2 hsi,zlh hc1.2 hsi,hc1.2.some hsi,hsi,hx0,hx1,implies_true,true_and,and_true,and_self]
  refine U_1 22 0 [] rfl rfl ?_
  simp only [go_sem,jq,jj,jy,jv,jk,jx,zkR pok hlt3,pok.some hlt3,hlt3,hlt3i,zkR hr1 hlt,hr1.some hlt,hlt,hlti,zkR ht1 hlt2,ht1.some hlt2,hlt2,hlt2i,jW,jY,zmT hc1.2 hsi,zlh hc1.2 hsi,hc1.2.some hsi,hsi,hx0,hx1,implies_true,true_and,and_true,and_self]
  refine U_1 23 0 [] rfl rfl ?_
  simp only [go_sem,jq,jj,jy,jv,jk,jx,zkR pok hlt3,pok.some hlt3,hlt3,hlt3i,zkR hr1 hlt,hr1.some hlt,hlt,hlti,zkR ht1 hlt2,ht1.some hlt2,hlt2,hlt2i,jW,jY,zmT hc1.2 hsi,zlh hc1.2 hsi,hc1.2.some hsi,hsi,hx0,hx1,implies_true,true_and,and_true,and_self]
  refine U_1 24 0 [] rfl rfl ?_
  simp only [go_sem,jq,jj,jy,jv,jk,jx,zkR pok hlt3,pok.some hlt3,hlt3,hlt3i,zkR hr1 hlt,hr1.some hlt,hlt,hlti,zkR ht1 hlt2,ht1.some hlt2,hlt2,hlt2i,jW,jY,zmT hc1.2 hsi,zlh hc1.2 hsi,hc1.2.some hsi,hsi,hx0,hx1,implies_true,true_and,and_true,and_self]
  refine ⟨by simp only [maxLen];omega,by omega,?_⟩
  refine U_t [25] rfl ?_
  simp only [go_sem,jq,jj,jy,jv,jk,jx,zkR pok hlt3,pok.some hlt3,hlt3,hlt3i,zkR hr1 hlt,hr1.some hlt,hlt,hlti,zkR ht1 hlt2,ht1.some hlt2,hlt2,hlt2i,jW,jY,zmT hc1.2 hsi,zlh hc1.2 hsi,hc1.2.some hsi,hsi,hx0,hx1,implies_true,true_and,and_true,and_self]
  refine U_d ?_
  refine Wk ?_
  refine ⟨k+1,[0,1,5],⟨hlt,zAc hk.2 (by rw [iget hlt2,In];exact hy)⟩,by omega,?_⟩
  refine Evs ?_
  rw [zEn,List.flatMap_append,List.length_append,hat]
  exact Gi (zjA hlt (by omega))
 ·have hge:=zjI hd
  have hke:k=r.l.length:=by omega
  subst hke
  refine zc6 ?_
  refine Evs ?_
  refine zl5 2 (pasL (Con.con c) ship s p.l r.l t.l r.l.length) rfl rfl rfl rfl (by decide) (zEp hsh hr ht (Nat.le_refl _) (by omega)) h le1 (Mines.flat (fun _=>rfl) (fun _=>trivial)) fun q h' e2 e3 e4 e5=>?_
  refine Wk ?_
  refine ⟨q,rfl,?_,e3,e5⟩
  rw [e2,zEl,if_pos ⟨hok,fun i hi=>hk.2 i hi⟩,hpl,e1];rfl
def zEJ (g:List DSegment) (pts:List Int) (i:Nat):Int:=zCZ (g.getD i dG) (pts.getLast?.getD 0)
def wkAt (F:List Int→List Int→List (List Int)) (g:List DSegment) (pts r:List Int) (i:Nat):List (List Int) :=
 if 0≤zEJ g pts i∧zEJ g pts i ∉ pts then F (pts ++ [zEJ g pts i]) (r ++ [(i:Int)]) else []
def zEK (g:List DSegment) (to:Int):Nat→List Int→List Int→List (List Int)
 | 0,_,_=>[]
 | f+1,pts,r=>if pts.getLast?.getD 0=to then [r] else (List.range g.length).flatMap (wkAt (zEK g to f) g pts r)
theorem zEL {g:List DSegment} {to:Int} (hg:g.length≤10):∀ {f:Nat} {pts r:List Int},(zEK g to f pts r).length≤10 ^ f
 | 0,_,_=>Nat.zero_le _
 | f+1,pts,r=>by
  unfold zEK
  have hp:0 < 10 ^ f:=Nat.pow_pos (by decide)
  rw [Nat.pow_succ]
  split
  ·show 1≤_;omega
  ·refine Nat.le_trans (zDo (B:=10 ^ f) fun i _=>?_) ?_
   ·unfold wkAt
    split
    ·exact zEL hg
    ·exact Nat.zero_le _
   ·rw [List.length_range]
    exact Nat.le_trans (Nat.mul_le_mul_right _ hg) (by omega)
theorem zEM {g:List DSegment} {to:Int} (hg:g.length≤10) {f k:Nat} {pts r:List Int} (hk:k≤10):((List.range k).flatMap (wkAt (zEK g to f) g pts r)).length≤k * 10 ^ f:=by
 have:=zDo (B:=10 ^ f) (l:=List.range k) (F:=wkAt (zEK g to f) g pts r) fun i _=>by
  unfold wkAt
  split
  ·exact zEL hg
  ·exact Nat.zero_le _
 rwa [List.length_range] at this
theorem zEN {c:zOv} (h:zz9 c=true):c.segments.length≤10:=by
 simp only [zz9,jJ,decide_eq_true_eq] at h
 exact h.1.1.2
theorem zEO {c:zOv} (h:zz9 c=true) {pts:List Int} (hn:pts.Nodup) (hx:∀ x ∈ pts,0≤x∧x < c.points.length):pts.length≤8:=Nat.le_trans (zDs hn hx) (zC4 h).1
theorem zES (a:Sl Int) (h:Hp) (ha:a.Ok h) (hz:a.l.length≤1048576):Ct jV 79 [a.val] h fun v h'=>∃ s:Sl Int,v=s.val∧s.l=a.l∧RowAt 3 h' s∧∀ g,s.a=some ⟨g,0,none⟩→h g=none:=by
 have hall:=ha.all (by decide)
 have hd:(h.ldL a.val 1).isSome=true:=by rw [show h.ldL a.val 1=_ from hall];rfl
 refine zdn (fun A W=>by simp) Tryz.func79 rfl rfl (by simp) fun W0=>?_
 repeat' first|refine Wa ?_|(simp only [go_sem,jq,jj,jy,jv,jk,jx,hall,show h.ldL a.val 1=some (a.l.flatMap Enc.enc) from hall,Option.isSome_some,Option.getD_some];try rfl)|refine Wb ?_|fail
 refine ⟨by simp only [maxLen];omega,by omega,?_⟩
 repeat' first|refine Wa ?_|(simp only [go_sem,jq,jj,jy,jv,jk,jx,hall,show h.ldL a.val 1=some (a.l.flatMap Enc.enc) from hall,Option.isSome_some,Option.getD_some];try rfl)|refine Wb ?_|fail
 refine ⟨fun u hu=>by obtain ⟨x,_,hx⟩:=List.mem_flatMap.1 hu;exact Enc.one x u hx,by simp only [maxLen];omega,by omega,?_⟩
 refine zCP 1 a.l rfl rfl (Nat.zero_add _) rfl fun s h' e1 R f1 l1 k1=>?_
 refine Wk ?_
 exact ⟨s,rfl,e1,R,f1⟩
theorem zET {l:List Int}:List.take 8 (metC l)=metC l:=List.take_of_length_le (by rw [zDB];exact Nat.le_refl _)
theorem zEU {l:List Int}:List.map SC.v (metV l)=metC l:=rfl
theorem zEV {l:List Int} {p:List (Nat × PB)}:((metC l).all fun x=>SC.okc p x)=true:=by
 rw [List.all_eq_true];intro x hx
 simp only [metC,metV,List.map_map,List.mem_map] at hx
 obtain ⟨j,_,rfl⟩:=hx
 rfl
theorem zEW {l:List Int} {r:Nat} {v:Value}:List.map (fun x=>SC.sub r v x) (metC l)=metC l:=rfl
theorem zEX {l:List Int}:List.map (fun x=>x.val) (metC l)=metV l:=by rw [metC,List.map_map];exact List.map_id _
def zEY (h:Hp) (b:Nat) (s:Sl (Sl Int)) (l:List (List Int)) (v:Value) (h':Hp):Prop :=
 ∃ s':Sl (Sl Int),s'.l.map (·.l)=s.l.map (·.l) ++ l∧WB 119 35 h' b s'∧(∀ g,s'.a=some ⟨g,0,none⟩→h g=none∨s.a=some ⟨g,0,none⟩)∧(zEF h b s).le (zEF h' b s')
theorem zEZ (c:DChart) (hC:zz9 (Con.con c)=true) (to:Int) (b:Nat) :
  ∀ (f:Nat) (l0:List Int) (a:Int) (r:Sl Int) (s:Sl (Sl Int)) (h:Hp),Enc.ok (zEF h b s) c→r.Ok (zEF h b s)→WB 119 35 h b s→(l0 ++ [a]).Nodup→(∀ x ∈ l0 ++ [a],0≤x∧x < c.points.l.length)→(l0 ++ [a]).length+f=9→r.l.length≤(l0 ++ [a]).length→s.l.length+10 ^ f≤2000000000 →
   Cw jV 240 [c.v,.int .i64 a,.int .i64 to,r.val,.agg (metV l0).toArray,.pointer (some ⟨b,0,none⟩)] h (fun k=>k=b∨s.a=some ⟨k,0,none⟩) (zEY h b s (zEK c.segments.l to f (l0 ++ [a]) r.l))
 | 0,l0,a,r,s,h,hc,hr,hW,hnd,hin,hlen,hrl,hol=>by
  have:=zEO hC hnd (fun x hx=>by rw [zC6];exact hin x hx)
  omega
 | f+1,l0,a,r,s,h,hc,hr,hW,hnd,hin,hlen,hrl,hol=>by
  have hcd:=hc
  have hrd:=hr
  replace hc:Enc.ok h c:=Enc.mono zEG hc
  replace hr:r.Ok h:=hr.mono zEG
  have hg10:c.segments.l.length≤10:=by rw [← zAX];exact zEN hC
  have h8:=zEO hC hnd (fun x hx=>by rw [zC6];exact hin x hx)
  have hp8:c.points.l.length≤8:=by rw [← zC6];exact (zC4 hC).1
  have ha:=hin a (List.mem_append_right _ (List.mem_singleton.2 rfl))
  have wl:=hW.lds
  have hlast:(l0 ++ [a]).getLast?.getD 0=a:=by rw [List.getLast?_concat];rfl
  refine zlI (fun A W=>by simp) Tryz.func240 rfl rfl (by simp)  (fun k hk=>by
   rcases hk with rfl|hk
   ·rw [hW.1];exact fun e=>by cases e
   ·exact hW.2.1.mem hk) fun W0 hWo=>?_
  have own1:∀ g,(g=b∨s.a=some ⟨g,0,none⟩)→h g=none∨W0.own g:=fun g hg=>.inr (hWo g hg)
  repeat' first|refine Wa ?_|(simp only [go_sem,jq,jj,jy,jv,jk,jx,zEU,zEV,true_and];try rfl)|refine Wb ?_|fail
  refine zc9 rfl (fun hx=>?_) (fun hx=>?_)
  ·have hx:a=to:=eq_of_beq hx
   have hF:zEK c.segments.l to (f+1) (l0 ++ [a]) r.l=[r.l]:=by rw [zEK,if_pos (by rw [hlast];exact hx)]
   rw [hF]
   have hp10:0 < 10 ^ (f+1):=Nat.pow_pos (by decide)
   refine Wk ?_
   refine zyW rfl ?_
   refine U_t [0,1,4,2,3] rfl ?_
   try simp only [go_sem,jq,jj,jy,jv,jk,jx,wl,true_or,true_and,and_true,implies_true]
   refine U_1 5 0 [3,2] rfl rfl ?_
   try simp only [go_sem,jq,jj,jy,jv,jk,jx,wl,true_or,true_and,and_true,implies_true]
   refine zkr (zES r _ hr (by omega)) rfl ?_
   rintro v h1 le1 ⟨q,rfl,eq1,Rq,fq⟩
   obtain ⟨W1,lb1⟩:=hW.grow le1
   have wl1:=W1.lds
   have q1:q.Ok (zEF h1 b s):=(hW.beside le1 Rq fq).ok (by decide) fun x hx=>hr.2.2.2.1 x (by rw [← eq1];exact hx)
   try simp only [go_sem,jq,jj,jy,jv,jk,jx,wl1,true_or,true_and,and_true,implies_true]
   refine U_1 6 0 [3,2] rfl rfl ?_
   try simp only [go_sem,jq,jj,jy,jv,jk,jx,wl1,true_or,true_and,and_true,implies_true]
   refine U_1 7 3 [] rfl rfl ?_
   try simp only [go_sem,jq,jj,jy,jv,jk,jx,wl1,true_or,true_and,and_true,implies_true]
   refine zCQ (s:=s) rfl W1.2.1 (fun g hg=>own1 g (.inr hg)) ?_
   try simp only [go_sem,jq,jj,jy,jv,jk,jx]
   refine ⟨rfl,by simp only [maxLen];omega,by omega,fun ad cap h2 P=>?_⟩
   have P':Pub (zCO h1 s) 35 (Enc.size (Sl Int)) (s.l ++ [q]).length ((s.l ++ [q]).flatMap Enc.enc) ad cap h2:=by
    rw [List.length_append,List.flatMap_append];exact P
   obtain ⟨b2,W2,lb2,fr2⟩:=W1.push q1 P'
   try simp only [go_sem,jq,jj,jy,jv,jk,jx,true_or,true_and]
   refine U_t [8] rfl ?_
   try simp only [go_sem,jq,jj,jy,jv,jk,jx,wl1,true_or,true_and,and_true,implies_true]
   refine U_1 9 1 [] rfl rfl ?_
   try simp only [go_sem,jq,jj,jy,jv,jk,jx,wl1,true_or,true_and,and_true,implies_true]
   refine zl3 (by simp only [go_sem]) (by simp only [go_sem]) rfl rfl b2 (own1 b (.inl rfl)) (by simp) ?_
   try simp only [go_sem,jq,jj,jy,jv,jk,jx]
   refine U_d ?_
   refine Wk ?_
   rw [show (Sl.mk ad cap (s.l ++ [q])).val=.slice ad (s.l.length+1) cap from by simp only [Sl.val,List.length_append,List.length_singleton]] at W2 lb2
   rw [zEI]
   refine ⟨_,?_,W2,fun g hg=>?_,Hp.le_trans lb1 lb2⟩
   ·rw [List.map_append];simp only [List.map_cons,List.map_nil,eq1]
   ·rcases fr2 g hg with e|e
    ·exact .inl (znC le1 e)
    ·exact .inr e
  have hx:¬ a=to:=ne_of_beq_false hx
  have hF:zEK c.segments.l to (f+1) (l0 ++ [a]) r.l=(List.range c.segments.l.length).flatMap (wkAt (zEK c.segments.l to f) c.segments.l (l0 ++ [a]) r.l):=by rw [zEK,if_neg (by rw [hlast];exact hx)]
  rw [hF]
  have ha0:=ha.1
  have ha8:a < ((8:Nat):Int):=by omega
  have ha7:a.toNat≤7:=by omega
  have ha9:a.toNat < 8:=by omega
  have hst:=zDC (l:=l0) (x:=a) ⟨ha0,by omega⟩
  refine zc5 ?_
  refine Evs ?_
  repeat' first|refine Wa ?_|(simp only [go_sem,jq,jj,jy,jv,jk,jx,ha0,ha8,ha7,ha9,hst,zDB,zEV,Nat.zero_add,Nat.mul_one,implies_true,true_and];try rfl)|refine Wb ?_|fail
  refine zEE (ι:=Nat × Hp × Sl (Sl Int)) (fun i=>⟨[(1,true,.c (.v (.int .i64 a))),(2,true,.c (.v (.int .i64 to))),(3,true,.c (.v r.val)),(5,true,.c (.v (.pointer (some ⟨b,0,none⟩)))),(6,true,.c (.p 0 0)),(10,true,.c (.p 1 0)),(30,true,.c (.v c.segments.val)),(31,true,.c (.v (.int .i64 c.segments.l.length))),(32,true,.c (.v (.int .i64 i.1)))],[(0,.box 53 [.v c.points.val,.v c.segments.val]),(1,.box 292 (metC (l0 ++ [a])))],i.2.1,2⟩)
   (fun i=>i.1≤c.segments.l.length∧WB 119 35 i.2.1 b i.2.2∧(∀ g,i.2.2.a=some ⟨g,0,none⟩→h g=none∨s.a=some ⟨g,0,none⟩)∧(zEF h b s).le (zEF i.2.1 b i.2.2)∧i.2.2.l.map (·.l)=s.l.map (·.l) ++ (List.range i.1).flatMap (wkAt (zEK c.segments.l to f) c.segments.l (l0 ++ [a]) r.l)) (fun i=>c.segments.l.length - i.1) (0,h,s) ⟨Nat.zero_le _,hW,fun g hg=>.inr hg,Hp.le_refl _,by simp⟩ [0,1] ?_ ?_
  ·refine Evs ?_
   exact Gk
  rintro ⟨i,hk,o⟩ ⟨hi,hWk,hfr,hle,hl⟩
  simp only at hi hWk hfr hle hl
  have hsub:(zEF h b s).le hk:=Hp.le_trans hle zEG
  have hck:Enc.ok hk c:=Enc.mono hsub hcd
  have hrk:=hrd.mono hsub
  have wk:=hWk.lds
  have own2:∀ g,hk g=none→h g=none∨W0.own g:=fun g hg=>by
   by_cases e1:g=b
   ·exact .inr (hWo g (.inl e1))
   by_cases e2:s.a=some ⟨g,0,none⟩
   ·exact .inr (hWo g (.inr e2))
   left
   cases hh:h g with
   | none=>rfl
   | some ob =>
    have h5:zEF h b s g=some ob:=by rw [zEH hW.2.1 e1 e2];exact hh
    rw [hsub g ob h5] at hg;cases hg
  refine Wk ?_
  refine zc9 rfl (fun hd=>?_) (fun hd=>?_)
  ·have hlt:=zjH hd
   have hlti:(i:Int) < c.segments.l.length:=by omega
   obtain ⟨y,hye⟩:∃ y,zCZ c.segments.l[i] a=y:=⟨_,rfl⟩
   have hwe:zEJ c.segments.l (l0 ++ [a]) i=y:=by rw [zEJ,gget hlt,hlast,hye]
   have hyn:y < c.points.l.length:=by
    have:=(zC5 hC (i:=i) (by rw [zAX];exact hlt) a).1
    rw [zAX,zC6,gget hlt,hye] at this
    exact this
   have hat:wkAt (zEK c.segments.l to f) c.segments.l (l0 ++ [a]) r.l i=if 0≤y∧y ∉ l0 ++ [a] then zEK c.segments.l to f (l0 ++ [a] ++ [y]) (r.l ++ [(i:Int)]) else []:=by rw [wkAt,hwe]
   repeat' first|refine Wa ?_|refine zhF (fun _=>zC7 c.segments.l[i] a _) ?_|(simp only [go_sem,jq,jj,jy,jv,jk,jx,zlh hck.2 hlt,hck.2.some hlt,zmT hck.2 hlt,hlt,hlti,jW,jY,implies_true,true_and,and_true,and_self];try rfl)|refine Wb ?_|fail
   rw [hye]
   by_cases hy:0≤y
   case neg =>
    rw [if_neg (fun H=>hy H.1)] at hat
    repeat' first|refine Wa ?_|(simp only [go_sem,jq,jj,jy,jv,jk,jx,eq_false hy,reduceCtorEq,decide_true,decide_false,Bool.not_true,Bool.not_false,Bool.true_or,Bool.false_or,Bool.false_and,Bool.true_and,Bool.false_eq_true,false_implies,implies_true,true_and];try rfl)|refine Wb ?_|fail
    refine zc9 rfl (fun hz=>?_) (fun hz=>?_)
    ·cases hz
    refine Wk ?_
    refine ⟨(i+1,hk,o),[0,1],⟨hlt,hWk,hfr,hle,by rw [hl,zDp,hat,List.append_nil]⟩,by simp only;omega,?_⟩
    refine Evs ?_
    exact Gi (zjA hlt (by omega))
   have hy8:y < ((8:Nat):Int):=by omega
   have hy7:y.toNat≤7:=by omega
   have hy9:y.toNat < 8:=by omega
   have hgt:=zDD (l:=l0 ++ [a]) (x:=y) ⟨hy,by omega⟩
   repeat' first|refine Wa ?_|(simp only [go_sem,jq,jj,jy,jv,jk,jx,eq_true hy,reduceCtorEq,hy8,hy7,hy9,hgt,zDB,Nat.zero_add,Nat.mul_one,decide_true,decide_false,Bool.not_true,Bool.not_false,Bool.true_or,Bool.false_or,Bool.true_and,Bool.false_eq_true,false_implies,implies_true,true_and];try rfl)|refine Wb ?_|fail
   refine zc9 rfl (fun hz=>?_) (fun hz=>?_)
   case refine_2 =>
    have hz:y ∈ l0 ++ [a]:=of_decide_eq_true (by rw [Bool.not_eq_false'] at hz;exact hz)
    rw [if_neg (fun H=>H.2 hz)] at hat
    refine Wk ?_
    refine ⟨(i+1,hk,o),[0,1],⟨hlt,hWk,hfr,hle,by rw [hl,zDp,hat,List.append_nil]⟩,by simp only;omega,?_⟩
    refine Evs ?_
    exact Gi (zjA hlt (by omega))
   have hz:y ∉ l0 ++ [a]:=of_decide_eq_false (by rw [Bool.not_eq_true'] at hz;exact hz)
   rw [if_pos ⟨hy,hz⟩] at hat
   refine Wk ?_
   refine zyW rfl ?_
   refine U_t [0,1,2,3,5,8,9] rfl ?_
   simp only [go_sem,jq,jj,jy,jv,jk,jx,zEW,zET,zDB,Nat.le_refl,implies_true,true_and]
   refine U_m 4 [6] ⟨?_,?_,trivial⟩
   ·refine U_b 4 0 [8,0] rfl rfl ?_
    refine Evs ?_
    refine zkr (zES r _ hrk (by omega)) rfl ?_
    rintro v h1 le1 ⟨q,rfl,eq1,Rq,fq⟩
    simp only [go_sem,jq,jj,jy,jv,jk,jx,zEW,zET,zDB,Nat.le_refl,implies_true,true_and]
    refine U_1 6 0 [8,0] rfl rfl ?_
    simp only [go_sem,jq,jj,jy,jv,jk,jx,zEW,zET,zDB,Nat.le_refl,implies_true,true_and]
    refine U_1 7 3 [8,0] rfl rfl ?_
    try simp only [go_sem,jq,jj,jy,jv,jk,jx]
    refine zCQ (s:=q) rfl Rq (fun g hg=>own2 g (fq g hg)) ?_
    try simp only [go_sem,jq,jj,jy,jv,jk,jx]
    refine ⟨rfl,by rw [eq1];simp only [maxLen];omega,by rw [eq1];omega,fun ad cap h2 P=>?_⟩
    have P':Pub (zCO h1 q) 3 (Enc.size Int) (q.l ++ [(i:Int)]).length ((q.l ++ [(i:Int)]).flatMap Enc.enc) ad cap h2:=by
     rw [List.length_append,List.flatMap_append];exact P
    obtain ⟨le2,fr2⟩:=pubF (l:=q.l ++ [(i:Int)]) Rq le1 fq P'
    obtain ⟨R2,-,-⟩:=P'.row
    obtain ⟨W2,lb2⟩:=hWk.grow le2
    have k2:(Sl.mk ad cap (q.l ++ [(i:Int)])).Ok (zEF h2 b o):=(hWk.beside le2 R2 fr2).ok (by decide) fun x hx=>by
     rcases List.mem_append.1 hx with hx|hx
     ·exact hrk.2.2.2.1 x (by rw [← eq1];exact hx)
     ·rw [List.mem_singleton.1 hx];show I64 _;unfold I64;omega
    rw [show Value.slice ad (q.l.length+1) cap=(Sl.mk ad cap (q.l ++ [(i:Int)])).val from by simp only [Sl.val,List.length_append,List.length_singleton]]
    try simp only [go_sem,jq,jj,jy,jv,jk,jx,zEW,zET,zDB,Nat.le_refl,implies_true,true_and]
    refine U_1 10 1 [] rfl rfl ?_
    try simp only [go_sem,jq,jj,jy,jv,jk,jx,zEX]
    have hol2:o.l.length+10 ^ f≤2000000000:=by
     have e1:=congrArg List.length hl
     rw [List.length_map,List.length_append,List.length_map] at e1
     have e2:=zEM (to:=to) hg10 (f:=f) (k:=i) (pts:=l0 ++ [a]) (r:=r.l) (by omega)
     have e3:(i+1) * 10 ^ f≤10 * 10 ^ f:=Nat.mul_le_mul_right _ (by omega)
     rw [Nat.add_mul,Nat.one_mul] at e3
     rw [Nat.pow_succ] at hol
     omega
    refine ⟨rfl,?_⟩
    refine zlJ (zEZ c hC to b f (l0 ++ [a]) y (Sl.mk ad cap (q.l ++ [(i:Int)])) o h2 (Enc.mono (Hp.le_trans hle lb2) hcd) k2 W2 (by rw [List.nodup_append];exact ⟨hnd,by simp,fun u hu v hv e=>by rw [List.mem_singleton.1 hv] at e;rw [e] at hu;exact hz hu⟩) (fun x hx=>by
     rcases List.mem_append.1 hx with hx|hx
     ·exact hin x hx
     ·rw [List.mem_singleton.1 hx];exact ⟨hy,hyn⟩) (by rw [List.length_append,List.length_singleton];omega) (by rw [List.length_append,List.length_append,List.length_singleton,List.length_singleton,eq1];omega) hol2) rfl (fun k hk=>?_) ?_
    ·rcases hk with rfl|hk
     ·exact ⟨(by rw [W2.1];exact fun e=>(by cases e)),.inr (hWo _ (.inl rfl))⟩
     ·exact ⟨W2.2.1.mem hk,(hfr k hk).imp id (fun e=>hWo k (.inr e))⟩
    rintro v h4 kp ⟨s4,hs4,W4,f4,l4⟩
    try simp only [go_sem,jq,jj,jy,jv,jk,jx]
    refine U_d ?_
    refine Wk ?_
    refine ⟨(i+1,h4,s4),[0,1],⟨hlt,W4,fun g hg=>?_,Hp.le_trans hle (Hp.le_trans lb2 l4),?_⟩,by simp only;omega,?_⟩
    ·rcases f4 g hg with e|e
     ·have e0:hk g=none:=by
       cases hh:hk g with
       | none=>rfl
       | some ob=>rw [le2 g ob hh] at e;cases e
      by_cases e1:g=b
      ·rw [e1,hWk.1] at e0;cases e0
      by_cases e2:s.a=some ⟨g,0,none⟩
      ·exact .inr e2
      left
      cases hh:h g with
      | none=>rfl
      | some ob =>
       have h5:zEF h b s g=some ob:=by rw [zEH hW.2.1 e1 e2];exact hh
       rw [hsub g ob h5] at e0;cases e0
     ·exact hfr g e
    ·rw [hs4,hl,zDp,hat,eq1,List.append_assoc]
    try simp only [go_sem,jq,jj,jy,jv,jk,jx]
    exact Gi (zjA hlt (by omega))
   ·refine U_b 6 0 [8,0] rfl rfl ?_
    simp only [go_sem,jq,jj,jy,jv,jk,jx,zEW,zET,zDB,Nat.le_refl,implies_true,true_and]
    refine U_1 4 0 [8,0] rfl rfl ?_
    refine Evs ?_
    refine zkr (zES r _ hrk (by omega)) rfl ?_
    rintro v h1 le1 ⟨q,rfl,eq1,Rq,fq⟩
    simp only [go_sem,jq,jj,jy,jv,jk,jx,zEW,zET,zDB,Nat.le_refl,implies_true,true_and]
    refine U_1 7 3 [8,0] rfl rfl ?_
    try simp only [go_sem,jq,jj,jy,jv,jk,jx]
    refine zCQ (s:=q) rfl Rq (fun g hg=>own2 g (fq g hg)) ?_
    try simp only [go_sem,jq,jj,jy,jv,jk,jx]
    refine ⟨rfl,by rw [eq1];simp only [maxLen];omega,by rw [eq1];omega,fun ad cap h2 P=>?_⟩
    have P':Pub (zCO h1 q) 3 (Enc.size Int) (q.l ++ [(i:Int)]).length ((q.l ++ [(i:Int)]).flatMap Enc.enc) ad cap h2:=by
     rw [List.length_append,List.flatMap_append];exact P
    obtain ⟨le2,fr2⟩:=pubF (l:=q.l ++ [(i:Int)]) Rq le1 fq P'
    obtain ⟨R2,-,-⟩:=P'.row
    obtain ⟨W2,lb2⟩:=hWk.grow le2
    have k2:(Sl.mk ad cap (q.l ++ [(i:Int)])).Ok (zEF h2 b o):=(hWk.beside le2 R2 fr2).ok (by decide) fun x hx=>by
     rcases List.mem_append.1 hx with hx|hx
     ·exact hrk.2.2.2.1 x (by rw [← eq1];exact hx)
     ·rw [List.mem_singleton.1 hx];show I64 _;unfold I64;omega
    rw [show Value.slice ad (q.l.length+1) cap=(Sl.mk ad cap (q.l ++ [(i:Int)])).val from by simp only [Sl.val,List.length_append,List.length_singleton]]
    try simp only [go_sem,jq,jj,jy,jv,jk,jx,zEW,zET,zDB,Nat.le_refl,implies_true,true_and]
    refine U_1 10 1 [] rfl rfl ?_
    try simp only [go_sem,jq,jj,jy,jv,jk,jx,zEX]
    have hol2:o.l.length+10 ^ f≤2000000000:=by
     have e1:=congrArg List.length hl
     rw [List.length_map,List.length_append,List.length_map] at e1
     have e2:=zEM (to:=to) hg10 (f:=f) (k:=i) (pts:=l0 ++ [a]) (r:=r.l) (by omega)
     have e3:(i+1) * 10 ^ f≤10 * 10 ^ f:=Nat.mul_le_mul_right _ (by omega)
     rw [Nat.add_mul,Nat.one_mul] at e3
     rw [Nat.pow_succ] at hol
     omega
    refine ⟨rfl,?_⟩
    refine zlJ (zEZ c hC to b f (l0 ++ [a]) y (Sl.mk ad cap (q.l ++ [(i:Int)])) o h2 (Enc.mono (Hp.le_trans hle lb2) hcd) k2 W2 (by rw [List.nodup_append];exact ⟨hnd,by simp,fun u hu v hv e=>by rw [List.mem_singleton.1 hv] at e;rw [e] at hu;exact hz hu⟩) (fun x hx=>by
     rcases List.mem_append.1 hx with hx|hx
     ·exact hin x hx
     ·rw [List.mem_singleton.1 hx];exact ⟨hy,hyn⟩) (by rw [List.length_append,List.length_singleton];omega) (by rw [List.length_append,List.length_append,List.length_singleton,List.length_singleton,eq1];omega) hol2) rfl (fun k hk=>?_) ?_
    ·rcases hk with rfl|hk
     ·exact ⟨(by rw [W2.1];exact fun e=>(by cases e)),.inr (hWo _ (.inl rfl))⟩
     ·exact ⟨W2.2.1.mem hk,(hfr k hk).imp id (fun e=>hWo k (.inr e))⟩
    rintro v h4 kp ⟨s4,hs4,W4,f4,l4⟩
    try simp only [go_sem,jq,jj,jy,jv,jk,jx]
    refine U_d ?_
    refine Wk ?_
    refine ⟨(i+1,h4,s4),[0,1],⟨hlt,W4,fun g hg=>?_,Hp.le_trans hle (Hp.le_trans lb2 l4),?_⟩,by simp only;omega,?_⟩
    ·rcases f4 g hg with e|e
     ·have e0:hk g=none:=by
       cases hh:hk g with
       | none=>rfl
       | some ob=>rw [le2 g ob hh] at e;cases e
      by_cases e1:g=b
      ·rw [e1,hWk.1] at e0;cases e0
      by_cases e2:s.a=some ⟨g,0,none⟩
      ·exact .inr e2
      left
      cases hh:h g with
      | none=>rfl
      | some ob =>
       have h5:zEF h b s g=some ob:=by rw [zEH hW.2.1 e1 e2];exact hh
       rw [hsub g ob h5] at e0;cases e0
     ·exact hfr g e
    ·rw [hs4,hl,zDp,hat,eq1,List.append_assoc]
    try simp only [go_sem,jq,jj,jy,jv,jk,jx]
    exact Gi (zjA hlt (by omega))
  ·have hge:=zjI hd
   obtain rfl:i=c.segments.l.length:=by omega
   refine Wk ?_
   exact ⟨o,hl,hWk,hfr,hle⟩
def rtIn (c:zOv) (a b:Int):Bool:=zz9 c && decide (0≤a∧a < c.points.length) && decide (0≤b∧b < c.points.length)
def zE0 (c:zOv) (a b:Int):List (List Int):=if rtIn c a b=true then zEK c.segments b 8 [a] [] else []
theorem zE1 {c:zOv} {a b:Int} (h:rtIn c a b=false):zE0 c a b=[]:=by rw [zE0,if_neg (by rw [h];exact Bool.false_ne_true)]
theorem zE2 {g:List DSegment} {to:Int}:∀ {f:Nat} {pts r:List Int},∀ x ∈ zEK g to f pts r,x.length≤r.length+f
 | 0,_,_,x,hx=>by cases hx
 | f+1,pts,r,x,hx=>by
  unfold zEK at hx
  split at hx
  ·rw [List.mem_singleton.1 hx];omega
  ·obtain ⟨i,_,hx⟩:=List.mem_flatMap.1 hx
   unfold wkAt at hx
   split at hx
   ·have:=zE2 x hx
    rw [List.length_append,List.length_singleton] at this
    omega
   ·cases hx
theorem zE3 {c:zOv} {a b:Int}:∀ x ∈ zE0 c a b,x.length≤8:=fun x hx=>by
 rw [zE0] at hx
 split at hx
 ·have:=zE2 x hx;simpa using this
 ·cases hx
def zE4 (m:List Int→Int) (acc:Option (List Int)) (r:List Int):Option (List Int):=match acc with
 | none=>some r
 | some x=>if m r < m x then some r else some x
def zE5 (c:zOv) (a b:Int):Option (List Int):=(zE0 c a b).foldl (zE4 (zDU c)) none
theorem zE6 {m:List Int→Int} {l0:List (List Int)}:∀ {l:List (List Int)} {acc:Option (List Int)} {x:List Int},(∀ y,acc=some y→y ∈ l0)→(∀ y ∈ l,y ∈ l0)→l.foldl (zE4 m) acc=some x→x ∈ l0
 | [],acc,x,h1,h2,h=>h1 x h
 | r :: l,acc,x,h1,h2,h=>by
  refine zE6 (l:=l) (acc:=zE4 m acc r) (fun y hy=>?_) (fun y hy=>h2 y (List.mem_cons_of_mem _ hy)) h
  unfold zE4 at hy
  split at hy
  ·cases hy;exact h2 _ (List.mem_cons_self ..)
  ·rename_i z
   split at hy
   ·cases hy;exact h2 _ (List.mem_cons_self ..)
   ·cases hy;exact h1 _ rfl
theorem zE7 {c:zOv} {a b:Int} {x:List Int} (h:zE5 c a b=some x):x.length≤8:=zE3 x (zE6 (acc:=none) (fun y hy=>by cases hy) (fun y hy=>hy) h)
theorem zE8 {a:Int}:([a]:List Int).Nodup:=by simp
theorem zFa (c:DChart) (a b:Int) (h:Hp) (hc:Enc.ok h c) (ha:I64 a):Ct jV 200 [c.v,.int .i64 a,.int .i64 b] h fun v h'=>∃ s:Sl (Sl Int),v=s.val∧s.l.map (·.l)=zE0 (Con.con c) a b∧s.Ok h':=by
 have hgm:=hc.1.max
 have hpl:(Con.con c).points=c.points.l:=zC6 c
 refine zdn (fun A W=>by simp) Tryz.func200 rfl rfl (by simp) fun W0=>?_
 repeat' first|refine Wa ?_|refine zhF (fun _=>zAi c _ hc) ?_|refine zhF (fun _=>zzn _ _ _) ?_|(simp only [go_sem,jq,jj,jy,jv,jk,jx];try rfl)|refine Wb ?_|fail
 refine zc9 rfl (fun hx=>?_) (fun hx=>?_)
 ·rw [zE1 (by
   rw [rtIn,hpl]
   simp only [jQ,Bool.not_eq_true',Bool.and_eq_false_iff,decide_eq_false_iff_not] at hx ⊢
   rcases hx with (hx|hx)|hx
   ·exact .inl (.inl hx)
   ·exact .inl (.inr (by omega))
   ·exact .inr (by omega))]
  refine Wk ?_
  exact ⟨⟨none,0,[]⟩,rfl,rfl,znp⟩
 simp only [jp,Bool.not_eq_false',jJ,decide_eq_true_eq] at hx
 obtain ⟨⟨hC,ha0,ha1⟩,hb0,hb1⟩:=hx
 have hin:rtIn (Con.con c) a b=true:=by
  simp only [rtIn,hC,hpl,Bool.true_and,jJ,decide_eq_true_eq];omega
 rw [zE0,if_pos hin,zAX]
 refine zc5 ?_
 refine Evs ?_
 refine zc3 ?_
 refine zc4 rfl ?_
 refine Evs ?_
 refine zCP 1 ([]:List (Sl Int)) rfl rfl rfl rfl fun s0 h1 e0 R0 f0 l1 k1=>?_
 refine Evs ?_
 refine zx5 2 rfl rfl fun g hg hown=>?_
 have l1:h.le h1:=l1
 have hg:h1 g=none:=hg
 have f0:∀ g,s0.a=some ⟨g,0,none⟩→h g=none:=f0
 have hown:W0.own g:=hown
 refine Evs ?_
 have hbd:zCO h1 s0 g=none:=by
  cases hh:zCO h1 s0 g with
  | none=>rfl
  | some o=>have:=zDk g o hh;rw [hg] at this;cases this
 have hle2:h1.le (h1.ins g (.cells #[s0.val] 119 (0,0))):=Hp.ins_le hg
 have hs0g:s0.a ≠ some ⟨g,0,none⟩:=fun e=>R0.mem e hg
 have W0':WB 119 35 (h1.ins g (.cells #[s0.val] 119 (0,0))) g s0 :=
  ⟨Hp.ins_same,R0.keep fun g' hg'=>Hp.ins_ne (fun e=>by subst e;exact hs0g hg'),hs0g,fun x hx=>by rw [e0] at hx;cases hx⟩
 have hb0':h.le (zEF (h1.ins g (.cells #[s0.val] 119 (0,0))) g s0):=fun k o hk=>by
  rw [zEH W0'.2.1 (fun e=>by subst e;rw [l1 _ o hk] at hg;cases hg) (fun e=>by rw [f0 k e] at hk;cases hk)]
  exact hle2 k o (l1 k o hk)
 first|refine zyi [0,0,0,0,1] rfl ?_|refine zyh [0,0,0,0,1] rfl ?_|(refine zc3 ?_;first|refine zyi [0,0,0,0,1] rfl ?_|refine zyh [0,0,0,0,1] rfl ?_)
 refine Evs ?_
 refine zlJ (zEZ c hC b g 8 [] a (Sl.mk none 0 []) s0 _ (Enc.mono hb0' hc) znp W0' zE8 (fun x hx=>by rw [List.mem_singleton.1 hx];omega) rfl (Nat.zero_le _) (by rw [e0];show 0+10 ^ 8≤2000000000;decide)) rfl (fun k hk=>?_) ?_
 ·rcases hk with rfl|hk
  ·exact ⟨(by rw [Hp.ins_same];exact fun e=>(by cases e)),.inr hown⟩
  ·exact ⟨W0'.2.1.mem hk,.inl (f0 k hk)⟩
 rintro v h4 kp ⟨s,hs,Ws,fs,les⟩
 try simp only [go_sem,jq,jj,jy,jv,jk,jx]
 repeat' first|refine Wa ?_|(simp only [go_sem,jq,jj,jy,jv,jk,jx,Ws.lds];try rfl)|refine Wb ?_|fail
 exact ⟨s,rfl,by rw [hs,e0];rfl,Ws.2.1.ok (by decide) fun x hx=>Enc.mono zEG (Ws.2.2.2 x hx)⟩
theorem zFb {m:List Int→Int} {l:List (Sl Int)} {k:Nat} (hk:k < l.length):((l.take (k+1)).map (·.l)).foldl (zE4 m) none=zE4 m (((l.take k).map (·.l)).foldl (zE4 m) none) l[k].l:=by
 rw [List.take_succ_eq_append_getElem hk,List.map_append,List.foldl_append];rfl
theorem zFd (c:DChart) (a b:Int) (h:Hp) (hc:Enc.ok h c) (ha:I64 a):Ct jV 153 [c.v,.int .i64 a,.int .i64 b] h fun v h'=>∃ s:Sl Int,v=.tuple #[s.val,.bool (zE5 (Con.con c) a b).isSome]∧s.l=(zE5 (Con.con c) a b).getD []∧s.Ok h':=by
 refine zdn (fun A W=>by simp) Tryz.func153 rfl rfl (by simp) fun W0=>?_
 refine Wk ?_
 refine zkr (zFa c a b _ hc ha) rfl ?_
 rintro v h2 le2 ⟨r,rfl,er,okr⟩
 have hc2:Enc.ok h2 c:=Enc.mono le2 hc
 have hl:=okr.max
 refine Wk ?_
 refine zc9 rfl (fun hz=>?_) (fun hz=>?_)
 ·have hz:r.l=[]:=List.length_eq_zero_iff.1 (by have:=eq_of_beq hz;omega)
  have hF:zE5 (Con.con c) a b=none:=by rw [zE5,← er,hz];rfl
  refine Wk ?_
  rw [hF]
  exact ⟨⟨none,0,[]⟩,rfl,rfl,znp⟩
 have h0:0 < r.l.length:=by have:=ne_of_beq_false hz;omega
 have h0i:(0:Int) < r.l.length:=by omega
 have hat0:=zkQ okr h0
 simp only [go_sem,Nat.zero_mul] at hat0
 repeat' first|refine Wa ?_|(simp only [go_sem,jq,jj,jy,jv,jk,jx,hat0,okr.some h0,h0,h0i,Int.toNat_zero,Nat.zero_mul,Int.le_refl,implies_true,true_and,and_true];try rfl)|refine Wb ?_|fail
 refine zm1 (ι:=Nat × Sl Int) (fun i=>⟨[(3,true,.c (.p 0 0)),(6,true,.c (.v (.slice none 0 0))),(7,true,.c (.v (.bool false))),(9,true,.c (.v i.2.val)),(22,true,.c (.v r.val)),(23,true,.c (.v (.int .i64 r.l.length))),(24,true,.c (.v (.int .i64 i.1)))],[(0,.box 53 [.v c.points.val,.v c.segments.val])],h2,1⟩) (fun i=>i.1≤r.l.length∧i.2.Ok h2∧((i.1=0∧i.2=r.l[0])∨((r.l.take i.1).map (·.l)).foldl (zE4 (zDU (Con.con c))) none=some i.2.l)) (fun i=>r.l.length - i.1) (0,r.l[0]) ⟨Nat.zero_le _,okr.el h0,.inl ⟨rfl,rfl⟩⟩ [0] ?_ ?_
 ·refine Evs ?_
  exact Gk
 rintro ⟨k,q⟩ ⟨hk,okq,hF⟩
 simp only at hk okq hF
 refine Wk ?_
 refine zc9 rfl (fun hd=>?_) (fun hd=>?_)
 ·have hlt:=zjH hd
  have okk:=okr.el hlt
  have hnx:=zFb (m:=zDU (Con.con c)) hlt
  have hnx2:((r.l.take (k+1)).map (·.l)).foldl (zE4 (zDU (Con.con c))) none=if zDU (Con.con c) r.l[k].l < zDU (Con.con c) q.l then some r.l[k].l else some q.l:=by
   rw [hnx]
   rcases hF with ⟨rfl,rfl⟩|hF
   ·rw [if_neg (Int.lt_irrefl _)];rfl
   ·rw [hF];rfl
  repeat' first|refine Wa ?_|(simp only [go_sem,jq,jj,jy,jv,jk,jx,zkQ okr hlt,okr.some hlt,hlt,jW,jY];try rfl)|refine Wb ?_|fail
  refine zyW rfl ?_
  refine U_t [0,1,3,4] rfl ?_
  simp only [go_sem,jq,jj,jy,jv,jk,jx,zkQ okr hlt,okr.some hlt,hlt,jW,jY]
  refine U_1 2 0 [3] rfl rfl ?_
  simp only [go_sem,jq,jj,jy,jv,jk,jx,zkQ okr hlt,okr.some hlt,hlt,jW,jY]
  refine zhF (fun _=>zDY c r.l[k] _ hc2 okk) ?_
  simp only [go_sem,jq,jj,jy,jv,jk,jx,zkQ okr hlt,okr.some hlt,hlt,jW,jY]
  refine U_1 5 0 [] rfl rfl ?_
  simp only [go_sem,jq,jj,jy,jv,jk,jx,zkQ okr hlt,okr.some hlt,hlt,jW,jY]
  refine zhF (fun _=>zDY c q _ hc2 okq) ?_
  simp only [go_sem,jq,jj,jy,jv,jk,jx,zkQ okr hlt,okr.some hlt,hlt,jW,jY]
  refine U_t [6] rfl ?_
  simp only [go_sem,jq,jj,jy,jv,jk,jx,zkQ okr hlt,okr.some hlt,hlt,jW,jY]
  refine U_d ?_
  refine Wk ?_
  refine zc9 rfl (fun hz=>?_) (fun hz=>?_)
  ·have hz:=of_decide_eq_true hz
   refine Wk ?_
   refine ⟨(k+1,r.l[k]),[0],⟨hlt,okk,.inr (by rw [hnx2,if_pos hz])⟩,by simp only;omega,?_⟩
   refine Evs ?_
   exact Gi (zjA hlt (by omega))
  ·have hz:=of_decide_eq_false hz
   refine Wk ?_
   refine ⟨(k+1,q),[0],⟨hlt,okq,.inr (by rw [hnx2,if_neg hz])⟩,by simp only;omega,?_⟩
   refine Evs ?_
   exact Gi (zjA hlt (by omega))
 ·have hge:=zjI hd
  obtain rfl:k=r.l.length:=by omega
  have hF:zE5 (Con.con c) a b=some q.l:=by
   rcases hF with ⟨e,_⟩|hF
   ·omega
   ·rw [List.take_length,er] at hF;exact hF
  refine Wk ?_
  rw [hF]
  exact ⟨q,rfl,rfl,okq⟩
end Go.Proofs.YtdejfjdbcggilaaGreat
