/- What functions of the given program compute, as contracts. -/
import Derived.Test.YtbkaaakphpbmiaaGreatSWaitStrategyx2
import Derived.Test.YtbkaaakphpbmiaaGreatSWaitStrategyx3
import Derived.Test.YtbkaaakphpbmiaaGreatXWaitStrategy4
set_option linter.unusedVariables false
set_option linter.unusedSimpArgs false
set_option maxRecDepth 4000
open Nat renaming reduceAdd → jq, reduceMul → jj, reduceBEq → jy, reduceLeDiff → jv, reduceLT → jk, reduceEqDiff → jx, zero_le → jC, le_refl → qV
open Int renaming toNat_natCast → jW, tdiv → yY, tmod → Jx
open Go.SL.Con renaming con → jK
open List renaming length_append → jP, length_map → jH, take_of_length_le → qy, length_cons → qv, length_nil → qY, size_toArray → qK, getElem_map → qH
open Bool renaming not_eq_true' → jd, not_eq_false' → jf
open Go.SL.Enc renaming ok → jD
open Go.Proofs.Tryz renaming prog → jV
namespace Go.Proofs.YtbkaaakphpbmiaaGreat
open Go Go.SL
set_option maxHeartbeats 1000000
theorem zyK (c d:DCall) (h:Hp) (G:jD h c) (H:jD h d):Ct jV 82 [.agg #[.int .i64 c.ship,.int .i64 c.src,.int .i64 c.dst,.int .i64 c.ready,.int .i64 c.due],.agg #[.int .i64 d.ship,.int .i64 d.src,.int .i64 d.dst,.int .i64 d.ready,.int .i64 d.due]] h fun v h'=>v=.bool (decide (jK c=jK d))∧h'=h:=by
 obtain ⟨t,w,x,o,y⟩:=G
 obtain ⟨u,z,D,p,F⟩:=H
 refine zdn (fun A W=>by simp) Tryz.func82 rfl rfl (by simp) fun W0=>?_
 refine Wk ?_
 refine zc9 rfl (fun h0=>?_) (fun h0=>?_)
 ·refine Wk ?_
  exact zjF fun e=>zjD h0 (congrArg DCall.ship e)
 refine Wk ?_
 refine zc9 rfl (fun q=>?_) (fun q=>?_)
 ·refine Wk ?_
  exact zjF fun e=>zjD q (congrArg DCall.src e)
 refine Wk ?_
 refine zc9 rfl (fun h2=>?_) (fun h2=>?_)
 ·refine Wk ?_
  exact zjF fun e=>zjD h2 (congrArg DCall.dst e)
 refine Wk ?_
 refine zc9 rfl (fun r=>?_) (fun r=>?_)
 ·refine Wk ?_
  exact zjF fun e=>zjD r (congrArg DCall.ready e)
 refine Wk ?_
 refine zc9 rfl (fun s=>?_) (fun s=>?_)
 ·refine Wk ?_
  exact zjF fun e=>zjD s (congrArg DCall.due e)
 refine Wk ?_
 refine zjG ?_
 obtain ⟨f,i,j,a,k⟩:=c
 obtain ⟨g,l,m,b,n⟩:=d
 show DCall.mk f i j a k=DCall.mk g l m b n
 rw [DCall.mk.injEq]
 exact ⟨zjE h0,zjE q,zjE h2,zjE r,zjE s⟩
theorem zyL (a b:Sl Int) (h:Hp) (i:a.Ok h) (m:b.Ok h):Ct jV 23 [a.val,b.val] h fun v h'=>v=.bool (decide (jK a=jK b))∧h'=h:=by
 have u:=i.max
 have q:(jK a).length=a.l.length:=jH ..
 have r:(jK b).length=b.l.length:=jH ..
 refine zdn (fun A W=>by simp) Tryz.func23 rfl rfl (by simp) fun W0=>?_
 refine Wk ?_
 refine zc9 rfl (fun f=>?_) (fun f=>?_)
 ·refine Wk ?_
  exact zjF fun e=>zjD f (by rw [← q,← r,e])
 have s:a.l.length=b.l.length:=by have:=zjE f;omega
 refine Wk ?_
 refine zde (ι:=Nat) (fun k=>⟨[(0,true,.c (.v a.val)),(1,true,.c (.v b.val)),(5,true,.c (.v (.int .i64 k)))],[],h,0⟩) (fun k=>k≤a.l.length∧(jK a).take k=(jK b).take k) (fun k=>a.l.length - k) 0 ⟨jC _,rfl⟩ ?_ ?_
 ·refine Evs ?_
  rfl
 intro k n
 refine Wk ?_
 refine zc9 rfl (fun f=>?_) (fun f=>?_)
 ·have d:=zjH f
  have g:k < b.l.length:=by omega
  have o:(jK a)[k]'(by omega)=jK a.l[k]:=qH ..
  have p:(jK b)[k]'(by omega)=jK b.l[k]:=qH ..
  refine Wk ?_
  refine zi8 rfl (by kernel_rfl) ?_
  simp only [go_sem,jq,jj,jy,jv,jk,jx,zkR i d,i.some d,zkR m g,m.some g,d,g]
  refine zc9 rfl (fun j=>?_) (fun j=>?_)
  ·refine Wk ?_
   refine zjF fun e=>(zjD j:¬ jK a.l[k]=jK b.l[k]) ?_
   rw [← o,← p];simp only [e]
  ·refine Wk ?_
   exact ⟨k+1,⟨d,zjC (by omega) (by omega) n.2 (by rw [o,p];exact zjE j)⟩,by omega,zjB (zjA d (by omega))⟩
 ·have t:=zjI f
  refine Wk ?_
  refine zjG ?_
  have:=n.2
  rwa [qy (by omega),qy (by omega)] at this
theorem zyM (c d:DPart) (h:Hp) (r:jD h c) (s:jD h d):Ct jV 267 [.agg #[.int .i64 c.amp,.int .i64 c.period,.int .i64 c.phase],.agg #[.int .i64 d.amp,.int .i64 d.period,.int .i64 d.phase]] h fun v h'=>v=.bool (decide (jK c=jK d))∧h'=h:=by
 obtain ⟨p,k,m⟩:=r
 obtain ⟨q,l,n⟩:=s
 refine zdn (fun A W=>by simp) Tryz.func267 rfl rfl (by simp) fun W0=>?_
 refine Wk ?_
 refine zc9 rfl (fun h0=>?_) (fun h0=>?_)
 ·refine Wk ?_
  exact zjF fun e=>zjD h0 (congrArg DPart.amp e)
 refine Wk ?_
 refine zc9 rfl (fun o=>?_) (fun o=>?_)
 ·refine Wk ?_
  exact zjF fun e=>zjD o (congrArg DPart.period e)
 refine Wk ?_
 refine zc9 rfl (fun h2=>?_) (fun h2=>?_)
 ·refine Wk ?_
  exact zjF fun e=>zjD h2 (congrArg DPart.phase e)
 refine Wk ?_
 refine zjG ?_
 obtain ⟨i,a,f⟩:=c
 obtain ⟨j,b,g⟩:=d
 show DPart.mk i a f=DPart.mk j b g
 rw [DPart.mk.injEq]
 exact ⟨zjE h0,zjE o,zjE h2⟩
theorem zyN (c d:DPassage) (h:Hp) (D:jD h c) (F:jD h d):Ct jV 181 [.agg #[.int .i64 c.ship,.int .i64 c.seg,.bool c.toward,.int .i64 c.start,.int .i64 c.fin],.agg #[.int .i64 d.ship,.int .i64 d.seg,.bool d.toward,.int .i64 d.start,.int .i64 d.fin]] h fun v h'=>v=.bool (decide (jK c=jK d))∧h'=h:=by
 obtain ⟨t,w,o,x⟩:=D
 obtain ⟨u,y,p,z⟩:=F
 refine zdn (fun A W=>by simp) Tryz.func181 rfl rfl (by simp) fun W0=>?_
 refine Wk ?_
 refine zc9 rfl (fun h0=>?_) (fun h0=>?_)
 ·refine Wk ?_
  exact zjF fun e=>zjD h0 (congrArg DPassage.ship e)
 refine Wk ?_
 refine zc9 rfl (fun q=>?_) (fun q=>?_)
 ·refine Wk ?_
  exact zjF fun e=>zjD q (congrArg DPassage.seg e)
 refine Wk ?_
 refine zc9 rfl (fun h2=>?_) (fun h2=>?_)
 ·refine Wk ?_
  exact zjF fun e=>zjD h2 (congrArg DPassage.toward e)
 refine Wk ?_
 refine zc9 rfl (fun r=>?_) (fun r=>?_)
 ·refine Wk ?_
  exact zjF fun e=>zjD r (congrArg DPassage.start e)
 refine Wk ?_
 refine zc9 rfl (fun s=>?_) (fun s=>?_)
 ·refine Wk ?_
  exact zjF fun e=>zjD s (congrArg DPassage.fin e)
 refine Wk ?_
 refine zjG ?_
 obtain ⟨i,k,a,f,l⟩:=c
 obtain ⟨j,m,b,g,n⟩:=d
 show DPassage.mk i k a f l=DPassage.mk j m b g n
 rw [DPassage.mk.injEq]
 exact ⟨zjE h0,zjE q,zjE h2,zjE r,zjE s⟩
theorem zyO (c d:DPoint) (h:Hp) (l:jD h c) (m:jD h d):Ct jV 224 [.agg #[.string c.name,.bool c.wait],.agg #[.string d.name,.bool d.wait]] h fun v h'=>v=.bool (decide (jK c=jK d))∧h'=h:=by
 have j:=l
 have k:=m
 refine zdn (fun A W=>by simp) Tryz.func224 rfl rfl (by simp) fun W0=>?_
 refine Wk ?_
 refine zc9 rfl (fun h0=>?_) (fun h0=>?_)
 ·refine Wk ?_
  exact zjF fun e=>JF (by simpa only [jd] using h0) (show c.name=d.name from (congrArg DPoint.name e))
 refine Wk ?_
 refine zc9 rfl (fun i=>?_) (fun i=>?_)
 ·refine Wk ?_
  exact zjF fun e=>zjD i (congrArg DPoint.wait e)
 refine Wk ?_
 refine zjG ?_
 obtain ⟨a,b⟩:=c
 obtain ⟨f,g⟩:=d
 show DPoint.mk a b=DPoint.mk f g
 rw [DPoint.mk.injEq]
 exact ⟨JE (by simpa only [jf] using h0),zjE i⟩
theorem zyP (c d:DRegime) (h:Hp) (l:jD h c) (m:jD h d):Ct jV 80 [.agg #[.int .i64 c.gap,.bool c.noMeet],.agg #[.int .i64 d.gap,.bool d.noMeet]] h fun v h'=>v=.bool (decide (jK c=jK d))∧h'=h:=by
 have j:=l
 have k:=m
 refine zdn (fun A W=>by simp) Tryz.func80 rfl rfl (by simp) fun W0=>?_
 refine Wk ?_
 refine zc9 rfl (fun h0=>?_) (fun h0=>?_)
 ·refine Wk ?_
  exact zjF fun e=>zjD h0 (congrArg DRegime.gap e)
 refine Wk ?_
 refine zc9 rfl (fun i=>?_) (fun i=>?_)
 ·refine Wk ?_
  exact zjF fun e=>zjD i (congrArg DRegime.noMeet e)
 refine Wk ?_
 refine zjG ?_
 obtain ⟨f,a⟩:=c
 obtain ⟨g,b⟩:=d
 show DRegime.mk f a=DRegime.mk g b
 rw [DRegime.mk.injEq]
 exact ⟨zjE h0,zjE i⟩
theorem zyQ (c d:DSegment) (h:Hp) (y:jD h c) (z:jD h d):Ct jV 225 [.agg #[.int .i64 c.a,.int .i64 c.b,.int .i64 c.depth,.int .i64 c.minutes,.bool c.meet],.agg #[.int .i64 d.a,.int .i64 d.b,.int .i64 d.depth,.int .i64 d.minutes,.bool d.meet]] h fun v h'=>v=.bool (decide (jK c=jK d))∧h'=h:=by
 obtain ⟨D,F,o,m⟩:=y
 obtain ⟨G,H,p,n⟩:=z
 refine zdn (fun A W=>by simp) Tryz.func225 rfl rfl (by simp) fun W0=>?_
 refine Wk ?_
 refine zc9 rfl (fun h0=>?_) (fun h0=>?_)
 ·refine Wk ?_
  exact zjF fun e=>zjD h0 (congrArg DSegment.a e)
 refine Wk ?_
 refine zc9 rfl (fun q=>?_) (fun q=>?_)
 ·refine Wk ?_
  exact zjF fun e=>zjD q (congrArg DSegment.b e)
 refine Wk ?_
 refine zc9 rfl (fun h2=>?_) (fun h2=>?_)
 ·refine Wk ?_
  exact zjF fun e=>zjD h2 (congrArg DSegment.depth e)
 refine Wk ?_
 refine zc9 rfl (fun r=>?_) (fun r=>?_)
 ·refine Wk ?_
  exact zjF fun e=>zjD r (congrArg DSegment.minutes e)
 refine Wk ?_
 refine zc9 rfl (fun s=>?_) (fun s=>?_)
 ·refine Wk ?_
  exact zjF fun e=>zjD s (congrArg DSegment.meet e)
 refine Wk ?_
 refine zjG ?_
 obtain ⟨t,u,i,f,k⟩:=c
 obtain ⟨w,x,j,g,l⟩:=d
 show DSegment.mk t u i f k=DSegment.mk w x j g l
 rw [DSegment.mk.injEq]
 exact ⟨zjE h0,zjE q,zjE h2,zjE r,zjE s⟩
theorem zyR (c d:DShip) (h:Hp) (K:jD h c) (M:jD h d):Ct jV 157 [.agg #[.string c.name,.int .i64 c.length,.int .i64 c.draught,.int .i64 c.line,.int .i64 c.tugs,.bool c.slow],.agg #[.string d.name,.int .i64 d.length,.int .i64 d.draught,.int .i64 d.line,.int .i64 d.tugs,.bool d.slow]] h fun v h'=>v=.bool (decide (jK c=jK d))∧h'=h:=by
 obtain ⟨z,s,q,D,F⟩:=K
 obtain ⟨G,t,r,H,J⟩:=M
 refine zdn (fun A W=>by simp) Tryz.func157 rfl rfl (by simp) fun W0=>?_
 refine Wk ?_
 refine zc9 rfl (fun h0=>?_) (fun h0=>?_)
 ·refine Wk ?_
  exact zjF fun e=>JF (by simpa only [jd] using h0) (show c.name=d.name from (congrArg DShip.name e))
 refine Wk ?_
 refine zc9 rfl (fun u=>?_) (fun u=>?_)
 ·refine Wk ?_
  exact zjF fun e=>zjD u (congrArg DShip.length e)
 refine Wk ?_
 refine zc9 rfl (fun h2=>?_) (fun h2=>?_)
 ·refine Wk ?_
  exact zjF fun e=>zjD h2 (congrArg DShip.draught e)
 refine Wk ?_
 refine zc9 rfl (fun w=>?_) (fun w=>?_)
 ·refine Wk ?_
  exact zjF fun e=>zjD w (congrArg DShip.line e)
 refine Wk ?_
 refine zc9 rfl (fun x=>?_) (fun x=>?_)
 ·refine Wk ?_
  exact zjF fun e=>zjD x (congrArg DShip.tugs e)
 refine Wk ?_
 refine zc9 rfl (fun y=>?_) (fun y=>?_)
 ·refine Wk ?_
  exact zjF fun e=>zjD y (congrArg DShip.slow e)
 refine Wk ?_
 refine zjG ?_
 obtain ⟨i,f,a,j,k,l⟩:=c
 obtain ⟨m,g,b,n,o,p⟩:=d
 show DShip.mk i f a j k l=DShip.mk m g b n o p
 rw [DShip.mk.injEq]
 exact ⟨JE (by simpa only [jf] using h0),zjE u,zjE h2,zjE w,zjE x,zjE y⟩
theorem zyS (c d:DSurge) (h:Hp) (r:jD h c) (s:jD h d):Ct jV 223 [.agg #[.int .i64 c.src,.int .i64 c.low,.int .i64 c.high],.agg #[.int .i64 d.src,.int .i64 d.low,.int .i64 d.high]] h fun v h'=>v=.bool (decide (jK c=jK d))∧h'=h:=by
 obtain ⟨n,o,l⟩:=r
 obtain ⟨p,q,m⟩:=s
 refine zdn (fun A W=>by simp) Tryz.func223 rfl rfl (by simp) fun W0=>?_
 refine Wk ?_
 refine zc9 rfl (fun h0=>?_) (fun h0=>?_)
 ·refine Wk ?_
  exact zjF fun e=>zjD h0 (congrArg DSurge.src e)
 refine Wk ?_
 refine zc9 rfl (fun k=>?_) (fun k=>?_)
 ·refine Wk ?_
  exact zjF fun e=>zjD k (congrArg DSurge.low e)
 refine Wk ?_
 refine zc9 rfl (fun h2=>?_) (fun h2=>?_)
 ·refine Wk ?_
  exact zjF fun e=>zjD h2 (congrArg DSurge.high e)
 refine Wk ?_
 refine zjG ?_
 obtain ⟨f,g,a⟩:=c
 obtain ⟨i,j,b⟩:=d
 show DSurge.mk f g a=DSurge.mk i j b
 rw [DSurge.mk.injEq]
 exact ⟨zjE h0,zjE k,zjE h2⟩
theorem zyT (a b:Sl DCall) (h:Hp) (g:a.Ok h) (i:b.Ok h):Ct jV 22 [a.val,b.val] h fun v h'=>v=.bool (decide (jK a=jK b))∧h'=h:=by
 have u:=g.max
 have q:(jK a).length=a.l.length:=jH ..
 have r:(jK b).length=b.l.length:=jH ..
 refine zdn (fun A W=>by simp) Tryz.func22 rfl rfl (by simp) fun W0=>?_
 refine Wk ?_
 refine zc9 rfl (fun j=>?_) (fun j=>?_)
 ·refine Wk ?_
  exact zjF fun e=>zjD j (by rw [← q,← r,e])
 have s:a.l.length=b.l.length:=by have:=zjE j;omega
 refine Wk ?_
 refine zde (ι:=Nat) (fun k=>⟨[(0,true,.c (.v a.val)),(1,true,.c (.v b.val)),(5,true,.c (.v (.int .i64 k)))],[],h,0⟩) (fun k=>k≤a.l.length∧(jK a).take k=(jK b).take k) (fun k=>a.l.length - k) 0 ⟨jC _,rfl⟩ ?_ ?_
 ·refine Evs ?_
  rfl
 intro k n
 refine Wk ?_
 refine zc9 rfl (fun j=>?_) (fun j=>?_)
 ·have f:=zjH j
  have d:k < b.l.length:=by omega
  have o:(jK a)[k]'(by omega)=jK a.l[k]:=qH ..
  have p:(jK b)[k]'(by omega)=jK b.l[k]:=qH ..
  refine Wk ?_
  refine ziV rfl ?_
  refine zi3 [0,1,2,3,4,5,6,7] rfl (by kernel_rfl) ?_
  simp only [go_sem,jq,jj,jy,jv,jk,jx,zkT g f,g.some f,zkT i d,i.some d,f,d]
  refine ziT [8] (by kernel_rfl) (by kernel_rfl) ?_
  simp only [go_sem,jq,jj,jy,jv,jk,jx,zkT g f,g.some f,zkT i d,i.some d,f,d]
  refine zhF (fun _=>zyK _ _ _ (g.el f) (i.el d)) ?_
  simp only [go_sem,jq,jj,jy,jv,jk,jx,zkT g f,g.some f,zkT i d,i.some d,f,d]
  refine zi3 [9] rfl (by kernel_rfl) ?_
  refine Evs ?_
  refine ziU (by kernel_rfl) ?_
  refine Wk ?_
  refine zc9 rfl (fun m=>?_) (fun m=>?_)
  ·refine Wk ?_
   refine zjF fun e=>(JF (by simpa only [jd] using m):¬ jK a.l[k]=jK b.l[k]) ?_
   rw [← o,← p];simp only [e]
  ·refine Wk ?_
   exact ⟨k+1,⟨f,zjC (by omega) (by omega) n.2 (by rw [o,p];exact JE (by simpa only [jf] using m))⟩,by omega,zjB (zjA f (by omega))⟩
 ·have t:=zjI j
  refine Wk ?_
  refine zjG ?_
  have:=n.2
  rwa [qy (by omega),qy (by omega)] at this
theorem zyU (c d:DCrew) (h:Hp) (o:jD h c) (p:jD h d):Ct jV 81 [.agg #[.int .i64 c.tugs,.int .i64 c.pilots,.int .i64 c.rest,c.moves.val],.agg #[.int .i64 d.tugs,.int .i64 d.pilots,.int .i64 d.rest,d.moves.val]] h fun v h'=>v=.bool (decide (jK c=jK d))∧h'=h:=by
 obtain ⟨k,f,l,a⟩:=o
 obtain ⟨m,g,n,b⟩:=p
 refine zdn (fun A W=>by simp) Tryz.func81 rfl rfl (by simp) fun W0=>?_
 refine Wk ?_
 refine zc9 rfl (fun h0=>?_) (fun h0=>?_)
 ·refine Wk ?_
  refine zjF fun e=>?_
  rw [zk1,zk1,PCrew.mk.injEq] at e
  exact zjD h0 e.1
 refine Wk ?_
 refine zc9 rfl (fun i=>?_) (fun i=>?_)
 ·refine Wk ?_
  refine zjF fun e=>?_
  rw [zk1,zk1,PCrew.mk.injEq] at e
  exact zjD i e.2.1
 refine Wk ?_
 refine zc9 rfl (fun h2=>?_) (fun h2=>?_)
 ·refine Wk ?_
  refine zjF fun e=>?_
  rw [zk1,zk1,PCrew.mk.injEq] at e
  exact zjD h2 e.2.2.1
 repeat' first|refine Wa ?_|refine zhF (fun _=>zyL _ _ _ a b) ?_|(simp only [go_sem,jq,jj,jy,jv,jk,jx];try rfl)|refine Wb ?_|fail
 refine zc9 rfl (fun j=>?_) (fun j=>?_)
 ·refine Wk ?_
  refine zjF fun e=>?_
  rw [zk1,zk1,PCrew.mk.injEq] at e
  exact JF (by simpa only [jd] using j) e.2.2.2
 refine Wk ?_
 refine zjG ?_
 rw [zk1,zk1,PCrew.mk.injEq]
 exact ⟨zjE h0,zjE i,zjE h2,JE (by simpa only [jf] using j)⟩
theorem zyV (a b:Sl DPart) (h:Hp) (g:a.Ok h) (i:b.Ok h):Ct jV 222 [a.val,b.val] h fun v h'=>v=.bool (decide (jK a=jK b))∧h'=h:=by
 have u:=g.max
 have q:(jK a).length=a.l.length:=jH ..
 have r:(jK b).length=b.l.length:=jH ..
 refine zdn (fun A W=>by simp) Tryz.func222 rfl rfl (by simp) fun W0=>?_
 refine Wk ?_
 refine zc9 rfl (fun j=>?_) (fun j=>?_)
 ·refine Wk ?_
  exact zjF fun e=>zjD j (by rw [← q,← r,e])
 have s:a.l.length=b.l.length:=by have:=zjE j;omega
 refine Wk ?_
 refine zde (ι:=Nat) (fun k=>⟨[(0,true,.c (.v a.val)),(1,true,.c (.v b.val)),(5,true,.c (.v (.int .i64 k)))],[],h,0⟩) (fun k=>k≤a.l.length∧(jK a).take k=(jK b).take k) (fun k=>a.l.length - k) 0 ⟨jC _,rfl⟩ ?_ ?_
 ·refine Evs ?_
  rfl
 intro k n
 refine Wk ?_
 refine zc9 rfl (fun j=>?_) (fun j=>?_)
 ·have f:=zjH j
  have d:k < b.l.length:=by omega
  have o:(jK a)[k]'(by omega)=jK a.l[k]:=qH ..
  have p:(jK b)[k]'(by omega)=jK b.l[k]:=qH ..
  refine Wk ?_
  refine ziV rfl ?_
  refine zi3 [0,1,2,3,4,5,6,7] rfl (by kernel_rfl) ?_
  simp only [go_sem,jq,jj,jy,jv,jk,jx,zk4 g f,g.some f,zk4 i d,i.some d,f,d]
  refine ziT [8] (by kernel_rfl) (by kernel_rfl) ?_
  simp only [go_sem,jq,jj,jy,jv,jk,jx,zk4 g f,g.some f,zk4 i d,i.some d,f,d]
  refine zhF (fun _=>zyM _ _ _ (g.el f) (i.el d)) ?_
  simp only [go_sem,jq,jj,jy,jv,jk,jx,zk4 g f,g.some f,zk4 i d,i.some d,f,d]
  refine zi3 [9] rfl (by kernel_rfl) ?_
  refine Evs ?_
  refine ziU (by kernel_rfl) ?_
  refine Wk ?_
  refine zc9 rfl (fun m=>?_) (fun m=>?_)
  ·refine Wk ?_
   refine zjF fun e=>(JF (by simpa only [jd] using m):¬ jK a.l[k]=jK b.l[k]) ?_
   rw [← o,← p];simp only [e]
  ·refine Wk ?_
   exact ⟨k+1,⟨f,zjC (by omega) (by omega) n.2 (by rw [o,p];exact JE (by simpa only [jf] using m))⟩,by omega,zjB (zjA f (by omega))⟩
 ·have t:=zjI j
  refine Wk ?_
  refine zjG ?_
  have:=n.2
  rwa [qy (by omega),qy (by omega)] at this
theorem zyW (a b:Sl DPassage) (h:Hp) (g:a.Ok h) (i:b.Ok h):Ct jV 101 [a.val,b.val] h fun v h'=>v=.bool (decide (jK a=jK b))∧h'=h:=by
 have u:=g.max
 have q:(jK a).length=a.l.length:=jH ..
 have r:(jK b).length=b.l.length:=jH ..
 refine zdn (fun A W=>by simp) Tryz.func101 rfl rfl (by simp) fun W0=>?_
 refine Wk ?_
 refine zc9 rfl (fun j=>?_) (fun j=>?_)
 ·refine Wk ?_
  exact zjF fun e=>zjD j (by rw [← q,← r,e])
 have s:a.l.length=b.l.length:=by have:=zjE j;omega
 refine Wk ?_
 refine zde (ι:=Nat) (fun k=>⟨[(0,true,.c (.v a.val)),(1,true,.c (.v b.val)),(5,true,.c (.v (.int .i64 k)))],[],h,0⟩) (fun k=>k≤a.l.length∧(jK a).take k=(jK b).take k) (fun k=>a.l.length - k) 0 ⟨jC _,rfl⟩ ?_ ?_
 ·refine Evs ?_
  rfl
 intro k n
 refine Wk ?_
 refine zc9 rfl (fun j=>?_) (fun j=>?_)
 ·have f:=zjH j
  have d:k < b.l.length:=by omega
  have o:(jK a)[k]'(by omega)=jK a.l[k]:=qH ..
  have p:(jK b)[k]'(by omega)=jK b.l[k]:=qH ..
  refine Wk ?_
  refine ziV rfl ?_
  refine zi3 [0,1,2,3,4,5,6,7] rfl (by kernel_rfl) ?_
  simp only [go_sem,jq,jj,jy,jv,jk,jx,zkV g f,g.some f,zkV i d,i.some d,f,d]
  refine ziT [8] (by kernel_rfl) (by kernel_rfl) ?_
  simp only [go_sem,jq,jj,jy,jv,jk,jx,zkV g f,g.some f,zkV i d,i.some d,f,d]
  refine zhF (fun _=>zyN _ _ _ (g.el f) (i.el d)) ?_
  simp only [go_sem,jq,jj,jy,jv,jk,jx,zkV g f,g.some f,zkV i d,i.some d,f,d]
  refine zi3 [9] rfl (by kernel_rfl) ?_
  refine Evs ?_
  refine ziU (by kernel_rfl) ?_
  refine Wk ?_
  refine zc9 rfl (fun m=>?_) (fun m=>?_)
  ·refine Wk ?_
   refine zjF fun e=>(JF (by simpa only [jd] using m):¬ jK a.l[k]=jK b.l[k]) ?_
   rw [← o,← p];simp only [e]
  ·refine Wk ?_
   exact ⟨k+1,⟨f,zjC (by omega) (by omega) n.2 (by rw [o,p];exact JE (by simpa only [jf] using m))⟩,by omega,zjB (zjA f (by omega))⟩
 ·have t:=zjI j
  refine Wk ?_
  refine zjG ?_
  have:=n.2
  rwa [qy (by omega),qy (by omega)] at this
theorem zyX (a b:Sl DPoint) (h:Hp) (g:a.Ok h) (i:b.Ok h):Ct jV 155 [a.val,b.val] h fun v h'=>v=.bool (decide (jK a=jK b))∧h'=h:=by
 have u:=g.max
 have q:(jK a).length=a.l.length:=jH ..
 have r:(jK b).length=b.l.length:=jH ..
 refine zdn (fun A W=>by simp) Tryz.func155 rfl rfl (by simp) fun W0=>?_
 refine Wk ?_
 refine zc9 rfl (fun j=>?_) (fun j=>?_)
 ·refine Wk ?_
  exact zjF fun e=>zjD j (by rw [← q,← r,e])
 have s:a.l.length=b.l.length:=by have:=zjE j;omega
 refine Wk ?_
 refine zde (ι:=Nat) (fun k=>⟨[(0,true,.c (.v a.val)),(1,true,.c (.v b.val)),(5,true,.c (.v (.int .i64 k)))],[],h,0⟩) (fun k=>k≤a.l.length∧(jK a).take k=(jK b).take k) (fun k=>a.l.length - k) 0 ⟨jC _,rfl⟩ ?_ ?_
 ·refine Evs ?_
  rfl
 intro k n
 refine Wk ?_
 refine zc9 rfl (fun j=>?_) (fun j=>?_)
 ·have f:=zjH j
  have d:k < b.l.length:=by omega
  have o:(jK a)[k]'(by omega)=jK a.l[k]:=qH ..
  have p:(jK b)[k]'(by omega)=jK b.l[k]:=qH ..
  refine Wk ?_
  refine ziV rfl ?_
  refine zi3 [0,1,2,3,4,5,6,7] rfl (by kernel_rfl) ?_
  simp only [go_sem,jq,jj,jy,jv,jk,jx,zlf g f,g.some f,zlf i d,i.some d,f,d]
  refine ziT [8] (by kernel_rfl) (by kernel_rfl) ?_
  simp only [go_sem,jq,jj,jy,jv,jk,jx,zlf g f,g.some f,zlf i d,i.some d,f,d]
  refine zhF (fun _=>zyO _ _ _ (g.el f) (i.el d)) ?_
  simp only [go_sem,jq,jj,jy,jv,jk,jx,zlf g f,g.some f,zlf i d,i.some d,f,d]
  refine zi3 [9] rfl (by kernel_rfl) ?_
  refine Evs ?_
  refine ziU (by kernel_rfl) ?_
  refine Wk ?_
  refine zc9 rfl (fun m=>?_) (fun m=>?_)
  ·refine Wk ?_
   refine zjF fun e=>(JF (by simpa only [jd] using m):¬ jK a.l[k]=jK b.l[k]) ?_
   rw [← o,← p];simp only [e]
  ·refine Wk ?_
   exact ⟨k+1,⟨f,zjC (by omega) (by omega) n.2 (by rw [o,p];exact JE (by simpa only [jf] using m))⟩,by omega,zjB (zjA f (by omega))⟩
 ·have t:=zjI j
  refine Wk ?_
  refine zjG ?_
  have:=n.2
  rwa [qy (by omega),qy (by omega)] at this
theorem zyY (a b:Sl DSegment) (h:Hp) (g:a.Ok h) (i:b.Ok h):Ct jV 156 [a.val,b.val] h fun v h'=>v=.bool (decide (jK a=jK b))∧h'=h:=by
 have u:=g.max
 have q:(jK a).length=a.l.length:=jH ..
 have r:(jK b).length=b.l.length:=jH ..
 refine zdn (fun A W=>by simp) Tryz.func156 rfl rfl (by simp) fun W0=>?_
 refine Wk ?_
 refine zc9 rfl (fun j=>?_) (fun j=>?_)
 ·refine Wk ?_
  exact zjF fun e=>zjD j (by rw [← q,← r,e])
 have s:a.l.length=b.l.length:=by have:=zjE j;omega
 refine Wk ?_
 refine zde (ι:=Nat) (fun k=>⟨[(0,true,.c (.v a.val)),(1,true,.c (.v b.val)),(5,true,.c (.v (.int .i64 k)))],[],h,0⟩) (fun k=>k≤a.l.length∧(jK a).take k=(jK b).take k) (fun k=>a.l.length - k) 0 ⟨jC _,rfl⟩ ?_ ?_
 ·refine Evs ?_
  rfl
 intro k n
 refine Wk ?_
 refine zc9 rfl (fun j=>?_) (fun j=>?_)
 ·have f:=zjH j
  have d:k < b.l.length:=by omega
  have o:(jK a)[k]'(by omega)=jK a.l[k]:=qH ..
  have p:(jK b)[k]'(by omega)=jK b.l[k]:=qH ..
  refine Wk ?_
  refine ziV rfl ?_
  refine zi3 [0,1,2,3,4,5,6,7] rfl (by kernel_rfl) ?_
  simp only [go_sem,jq,jj,jy,jv,jk,jx,zlh g f,g.some f,zlh i d,i.some d,f,d]
  refine ziT [8] (by kernel_rfl) (by kernel_rfl) ?_
  simp only [go_sem,jq,jj,jy,jv,jk,jx,zlh g f,g.some f,zlh i d,i.some d,f,d]
  refine zhF (fun _=>zyQ _ _ _ (g.el f) (i.el d)) ?_
  simp only [go_sem,jq,jj,jy,jv,jk,jx,zlh g f,g.some f,zlh i d,i.some d,f,d]
  refine zi3 [9] rfl (by kernel_rfl) ?_
  refine Evs ?_
  refine ziU (by kernel_rfl) ?_
  refine Wk ?_
  refine zc9 rfl (fun m=>?_) (fun m=>?_)
  ·refine Wk ?_
   refine zjF fun e=>(JF (by simpa only [jd] using m):¬ jK a.l[k]=jK b.l[k]) ?_
   rw [← o,← p];simp only [e]
  ·refine Wk ?_
   exact ⟨k+1,⟨f,zjC (by omega) (by omega) n.2 (by rw [o,p];exact JE (by simpa only [jf] using m))⟩,by omega,zjB (zjA f (by omega))⟩
 ·have t:=zjI j
  refine Wk ?_
  refine zjG ?_
  have:=n.2
  rwa [qy (by omega),qy (by omega)] at this
theorem zyZ (a b:Sl DShip) (h:Hp) (g:a.Ok h) (i:b.Ok h):Ct jV 79 [a.val,b.val] h fun v h'=>v=.bool (decide (jK a=jK b))∧h'=h:=by
 have u:=g.max
 have q:(jK a).length=a.l.length:=jH ..
 have r:(jK b).length=b.l.length:=jH ..
 refine zdn (fun A W=>by simp) Tryz.func79 rfl rfl (by simp) fun W0=>?_
 refine Wk ?_
 refine zc9 rfl (fun j=>?_) (fun j=>?_)
 ·refine Wk ?_
  exact zjF fun e=>zjD j (by rw [← q,← r,e])
 have s:a.l.length=b.l.length:=by have:=zjE j;omega
 refine Wk ?_
 refine zde (ι:=Nat) (fun k=>⟨[(0,true,.c (.v a.val)),(1,true,.c (.v b.val)),(5,true,.c (.v (.int .i64 k)))],[],h,0⟩) (fun k=>k≤a.l.length∧(jK a).take k=(jK b).take k) (fun k=>a.l.length - k) 0 ⟨jC _,rfl⟩ ?_ ?_
 ·refine Evs ?_
  rfl
 intro k n
 refine Wk ?_
 refine zc9 rfl (fun j=>?_) (fun j=>?_)
 ·have f:=zjH j
  have d:k < b.l.length:=by omega
  have o:(jK a)[k]'(by omega)=jK a.l[k]:=qH ..
  have p:(jK b)[k]'(by omega)=jK b.l[k]:=qH ..
  refine Wk ?_
  refine ziV rfl ?_
  refine zi3 [0,1,2,3,4,5,6,7] rfl (by kernel_rfl) ?_
  simp only [go_sem,jq,jj,jy,jv,jk,jx,zln g f,g.some f,zln i d,i.some d,f,d]
  refine ziT [8] (by kernel_rfl) (by kernel_rfl) ?_
  simp only [go_sem,jq,jj,jy,jv,jk,jx,zln g f,g.some f,zln i d,i.some d,f,d]
  refine zhF (fun _=>zyR _ _ _ (g.el f) (i.el d)) ?_
  simp only [go_sem,jq,jj,jy,jv,jk,jx,zln g f,g.some f,zln i d,i.some d,f,d]
  refine zi3 [9] rfl (by kernel_rfl) ?_
  refine Evs ?_
  refine ziU (by kernel_rfl) ?_
  refine Wk ?_
  refine zc9 rfl (fun m=>?_) (fun m=>?_)
  ·refine Wk ?_
   refine zjF fun e=>(JF (by simpa only [jd] using m):¬ jK a.l[k]=jK b.l[k]) ?_
   rw [← o,← p];simp only [e]
  ·refine Wk ?_
   exact ⟨k+1,⟨f,zjC (by omega) (by omega) n.2 (by rw [o,p];exact JE (by simpa only [jf] using m))⟩,by omega,zjB (zjA f (by omega))⟩
 ·have t:=zjI j
  refine Wk ?_
  refine zjG ?_
  have:=n.2
  rwa [qy (by omega),qy (by omega)] at this
theorem zy0 (a b:Sl DSurge) (h:Hp) (g:a.Ok h) (i:b.Ok h):Ct jV 154 [a.val,b.val] h fun v h'=>v=.bool (decide (jK a=jK b))∧h'=h:=by
 have u:=g.max
 have q:(jK a).length=a.l.length:=jH ..
 have r:(jK b).length=b.l.length:=jH ..
 refine zdn (fun A W=>by simp) Tryz.func154 rfl rfl (by simp) fun W0=>?_
 refine Wk ?_
 refine zc9 rfl (fun j=>?_) (fun j=>?_)
 ·refine Wk ?_
  exact zjF fun e=>zjD j (by rw [← q,← r,e])
 have s:a.l.length=b.l.length:=by have:=zjE j;omega
 refine Wk ?_
 refine zde (ι:=Nat) (fun k=>⟨[(0,true,.c (.v a.val)),(1,true,.c (.v b.val)),(5,true,.c (.v (.int .i64 k)))],[],h,0⟩) (fun k=>k≤a.l.length∧(jK a).take k=(jK b).take k) (fun k=>a.l.length - k) 0 ⟨jC _,rfl⟩ ?_ ?_
 ·refine Evs ?_
  rfl
 intro k n
 refine Wk ?_
 refine zc9 rfl (fun j=>?_) (fun j=>?_)
 ·have f:=zjH j
  have d:k < b.l.length:=by omega
  have o:(jK a)[k]'(by omega)=jK a.l[k]:=qH ..
  have p:(jK b)[k]'(by omega)=jK b.l[k]:=qH ..
  refine Wk ?_
  refine ziV rfl ?_
  refine zi3 [0,1,2,3,4,5,6,7] rfl (by kernel_rfl) ?_
  simp only [go_sem,jq,jj,jy,jv,jk,jx,zk9 g f,g.some f,zk9 i d,i.some d,f,d]
  refine ziT [8] (by kernel_rfl) (by kernel_rfl) ?_
  simp only [go_sem,jq,jj,jy,jv,jk,jx,zk9 g f,g.some f,zk9 i d,i.some d,f,d]
  refine zhF (fun _=>zyS _ _ _ (g.el f) (i.el d)) ?_
  simp only [go_sem,jq,jj,jy,jv,jk,jx,zk9 g f,g.some f,zk9 i d,i.some d,f,d]
  refine zi3 [9] rfl (by kernel_rfl) ?_
  refine Evs ?_
  refine ziU (by kernel_rfl) ?_
  refine Wk ?_
  refine zc9 rfl (fun m=>?_) (fun m=>?_)
  ·refine Wk ?_
   refine zjF fun e=>(JF (by simpa only [jd] using m):¬ jK a.l[k]=jK b.l[k]) ?_
   rw [← o,← p];simp only [e]
  ·refine Wk ?_
   exact ⟨k+1,⟨f,zjC (by omega) (by omega) n.2 (by rw [o,p];exact JE (by simpa only [jf] using m))⟩,by omega,zjB (zjA f (by omega))⟩
 ·have t:=zjI j
  refine Wk ?_
  refine zjG ?_
  have:=n.2
  rwa [qy (by omega),qy (by omega)] at this
theorem zy1 (c d:DChart) (h:Hp) (j:jD h c) (k:jD h d):Ct jV 78 [.agg #[c.points.val,c.segments.val],.agg #[d.points.val,d.segments.val]] h fun v h'=>v=.bool (decide (jK c=jK d))∧h'=h:=by
 obtain ⟨f,a⟩:=j
 obtain ⟨g,b⟩:=k
 refine zdn (fun A W=>by simp) Tryz.func78 rfl rfl (by simp) fun W0=>?_
 repeat' first|refine Wa ?_|refine zhF (fun _=>zyX _ _ _ f g) ?_|(simp only [go_sem,jq,jj,jy,jv,jk,jx];try rfl)|refine Wb ?_|fail
 refine zc9 rfl (fun h0=>?_) (fun h0=>?_)
 ·refine Wk ?_
  refine zjF fun e=>?_
  rw [zlj,zlj,PChart.mk.injEq] at e
  exact JF (by simpa only [jd] using h0) e.1
 repeat' first|refine Wa ?_|refine zhF (fun _=>zyY _ _ _ a b) ?_|(simp only [go_sem,jq,jj,jy,jv,jk,jx];try rfl)|refine Wb ?_|fail
 refine zc9 rfl (fun i=>?_) (fun i=>?_)
 ·refine Wk ?_
  refine zjF fun e=>?_
  rw [zlj,zlj,PChart.mk.injEq] at e
  exact JF (by simpa only [jd] using i) e.2
 refine Wk ?_
 refine zjG ?_
 rw [zlj,zlj,PChart.mk.injEq]
 exact ⟨JE (by simpa only [jf] using h0),JE (by simpa only [jf] using i)⟩
theorem zy2 (c d:DOption) (h:Hp) (o:jD h c) (p:jD h d):Ct jV 34 [.agg #[.int .i64 c.start,.int .i64 c.arr,.int .i64 c.cost,c.pas.val],.agg #[.int .i64 d.start,.int .i64 d.arr,.int .i64 d.cost,d.pas.val]] h fun v h'=>v=.bool (decide (jK c=jK d))∧h'=h:=by
 obtain ⟨f,m,k,a⟩:=o
 obtain ⟨g,n,l,b⟩:=p
 refine zdn (fun A W=>by simp) Tryz.func34 rfl rfl (by simp) fun W0=>?_
 refine Wk ?_
 refine zc9 rfl (fun h0=>?_) (fun h0=>?_)
 ·refine Wk ?_
  refine zjF fun e=>?_
  rw [zkX,zkX,POption.mk.injEq] at e
  exact zjD h0 e.1
 refine Wk ?_
 refine zc9 rfl (fun i=>?_) (fun i=>?_)
 ·refine Wk ?_
  refine zjF fun e=>?_
  rw [zkX,zkX,POption.mk.injEq] at e
  exact zjD i e.2.1
 refine Wk ?_
 refine zc9 rfl (fun h2=>?_) (fun h2=>?_)
 ·refine Wk ?_
  refine zjF fun e=>?_
  rw [zkX,zkX,POption.mk.injEq] at e
  exact zjD h2 e.2.2.1
 repeat' first|refine Wa ?_|refine zhF (fun _=>zyW _ _ _ a b) ?_|(simp only [go_sem,jq,jj,jy,jv,jk,jx];try rfl)|refine Wb ?_|fail
 refine zc9 rfl (fun j=>?_) (fun j=>?_)
 ·refine Wk ?_
  refine zjF fun e=>?_
  rw [zkX,zkX,POption.mk.injEq] at e
  exact JF (by simpa only [jd] using j) e.2.2.2
 refine Wk ?_
 refine zjG ?_
 rw [zkX,zkX,POption.mk.injEq]
 exact ⟨zjE h0,zjE i,zjE h2,JE (by simpa only [jf] using j)⟩
theorem zy3 (c d:DTide) (h:Hp) (j:jD h c) (k:jD h d):Ct jV 153 [.agg #[.int .i64 c.mean,c.parts.val],.agg #[.int .i64 d.mean,d.parts.val]] h fun v h'=>v=.bool (decide (jK c=jK d))∧h'=h:=by
 obtain ⟨g,a⟩:=j
 obtain ⟨i,b⟩:=k
 refine zdn (fun A W=>by simp) Tryz.func153 rfl rfl (by simp) fun W0=>?_
 refine Wk ?_
 refine zc9 rfl (fun h0=>?_) (fun h0=>?_)
 ·refine Wk ?_
  refine zjF fun e=>?_
  rw [zk6,zk6,PTide.mk.injEq] at e
  exact zjD h0 e.1
 repeat' first|refine Wa ?_|refine zhF (fun _=>zyV _ _ _ a b) ?_|(simp only [go_sem,jq,jj,jy,jv,jk,jx];try rfl)|refine Wb ?_|fail
 refine zc9 rfl (fun f=>?_) (fun f=>?_)
 ·refine Wk ?_
  refine zjF fun e=>?_
  rw [zk6,zk6,PTide.mk.injEq] at e
  exact JF (by simpa only [jd] using f) e.2
 refine Wk ?_
 refine zjG ?_
 rw [zk6,zk6,PTide.mk.injEq]
 exact ⟨zjE h0,JE (by simpa only [jf] using f)⟩
theorem zy4 (c d:DForecast) (h:Hp) (j:jD h c) (k:jD h d):Ct jV 77 [.agg #[.int .i64 c.tide.mean,c.tide.parts.val,c.surges.val],.agg #[.int .i64 d.tide.mean,d.tide.parts.val,d.surges.val]] h fun v h'=>v=.bool (decide (jK c=jK d))∧h'=h:=by
 obtain ⟨f,a⟩:=j
 obtain ⟨g,b⟩:=k
 refine zdn (fun A W=>by simp) Tryz.func77 rfl rfl (by simp) fun W0=>?_
 repeat' first|refine Wa ?_|refine zhF (fun _=>zy3 _ _ _ f g) ?_|(simp only [go_sem,jq,jj,jy,jv,jk,jx];try rfl)|refine Wb ?_|fail
 refine zc9 rfl (fun h0=>?_) (fun h0=>?_)
 ·refine Wk ?_
  refine zjF fun e=>?_
  rw [zlb,zlb,PForecast.mk.injEq] at e
  exact JF (by simpa only [jd] using h0) e.1
 repeat' first|refine Wa ?_|refine zhF (fun _=>zy0 _ _ _ a b) ?_|(simp only [go_sem,jq,jj,jy,jv,jk,jx];try rfl)|refine Wb ?_|fail
 refine zc9 rfl (fun i=>?_) (fun i=>?_)
 ·refine Wk ?_
  refine zjF fun e=>?_
  rw [zlb,zlb,PForecast.mk.injEq] at e
  exact JF (by simpa only [jd] using i) e.2
 refine Wk ?_
 refine zjG ?_
 rw [zlb,zlb,PForecast.mk.injEq]
 exact ⟨JE (by simpa only [jf] using h0),JE (by simpa only [jf] using i)⟩
theorem zy5 (a b:Sl DOption) (h:Hp) (g:a.Ok h) (i:b.Ok h):Ct jV 41 [a.val,b.val] h fun v h'=>v=.bool (decide (jK a=jK b))∧h'=h:=by
 have u:=g.max
 have q:(jK a).length=a.l.length:=jH ..
 have r:(jK b).length=b.l.length:=jH ..
 refine zdn (fun A W=>by simp) Tryz.func41 rfl rfl (by simp) fun W0=>?_
 refine Wk ?_
 refine zc9 rfl (fun j=>?_) (fun j=>?_)
 ·refine Wk ?_
  exact zjF fun e=>zjD j (by rw [← q,← r,e])
 have s:a.l.length=b.l.length:=by have:=zjE j;omega
 refine Wk ?_
 refine zde (ι:=Nat) (fun k=>⟨[(0,true,.c (.v a.val)),(1,true,.c (.v b.val)),(5,true,.c (.v (.int .i64 k)))],[],h,0⟩) (fun k=>k≤a.l.length∧(jK a).take k=(jK b).take k) (fun k=>a.l.length - k) 0 ⟨jC _,rfl⟩ ?_ ?_
 ·refine Evs ?_
  rfl
 intro k n
 refine Wk ?_
 refine zc9 rfl (fun j=>?_) (fun j=>?_)
 ·have f:=zjH j
  have d:k < b.l.length:=by omega
  have o:(jK a)[k]'(by omega)=jK a.l[k]:=qH ..
  have p:(jK b)[k]'(by omega)=jK b.l[k]:=qH ..
  refine Wk ?_
  refine ziV rfl ?_
  refine zi3 [0,1,2,3,4,5,6,7] rfl (by kernel_rfl) ?_
  simp only [go_sem,jq,jj,jy,jv,jk,jx,zkZ g f,g.some f,zkZ i d,i.some d,f,d]
  refine ziT [8] (by kernel_rfl) (by kernel_rfl) ?_
  simp only [go_sem,jq,jj,jy,jv,jk,jx,zkZ g f,g.some f,zkZ i d,i.some d,f,d]
  refine zhF (fun _=>zy2 _ _ _ (g.el f) (i.el d)) ?_
  simp only [go_sem,jq,jj,jy,jv,jk,jx,zkZ g f,g.some f,zkZ i d,i.some d,f,d]
  refine zi3 [9] rfl (by kernel_rfl) ?_
  refine Evs ?_
  refine ziU (by kernel_rfl) ?_
  refine Wk ?_
  refine zc9 rfl (fun m=>?_) (fun m=>?_)
  ·refine Wk ?_
   refine zjF fun e=>(JF (by simpa only [jd] using m):¬ jK a.l[k]=jK b.l[k]) ?_
   rw [← o,← p];simp only [e]
  ·refine Wk ?_
   exact ⟨k+1,⟨f,zjC (by omega) (by omega) n.2 (by rw [o,p];exact JE (by simpa only [jf] using m))⟩,by omega,zjB (zjA f (by omega))⟩
 ·have t:=zjI j
  refine Wk ?_
  refine zjG ?_
  have:=n.2
  rwa [qy (by omega),qy (by omega)] at this
theorem zy6 (c d:DBranch) (h:Hp) (l:jD h c) (m:jD h d):Ct jV 152 [.agg #[.int .i64 c.low,.int .i64 c.high,c.plan.val],.agg #[.int .i64 d.low,.int .i64 d.high,d.plan.val]] h fun v h'=>v=.bool (decide (jK c=jK d))∧h'=h:=by
 obtain ⟨j,g,a⟩:=l
 obtain ⟨k,i,b⟩:=m
 refine zdn (fun A W=>by simp) Tryz.func152 rfl rfl (by simp) fun W0=>?_
 refine Wk ?_
 refine zc9 rfl (fun h0=>?_) (fun h0=>?_)
 ·refine Wk ?_
  refine zjF fun e=>?_
  rw [zlt,zlt,PBranch.mk.injEq] at e
  exact zjD h0 e.1
 refine Wk ?_
 refine zc9 rfl (fun f=>?_) (fun f=>?_)
 ·refine Wk ?_
  refine zjF fun e=>?_
  rw [zlt,zlt,PBranch.mk.injEq] at e
  exact zjD f e.2.1
 repeat' first|refine Wa ?_|refine zhF (fun _=>zy5 _ _ _ a b) ?_|(simp only [go_sem,jq,jj,jy,jv,jk,jx];try rfl)|refine Wb ?_|fail
 refine zc9 rfl (fun h2=>?_) (fun h2=>?_)
 ·refine Wk ?_
  refine zjF fun e=>?_
  rw [zlt,zlt,PBranch.mk.injEq] at e
  exact JF (by simpa only [jd] using h2) e.2.2
 refine Wk ?_
 refine zjG ?_
 rw [zlt,zlt,PBranch.mk.injEq]
 exact ⟨zjE h0,zjE f,JE (by simpa only [jf] using h2)⟩
theorem zy7 (c d:DHarbour) (h:Hp) (r:jD h c) (s:jD h d):Ct jV 21 [.agg #[.int .i64 c.forecast.tide.mean,c.forecast.tide.parts.val,c.forecast.surges.val,c.chart.points.val,c.chart.segments.val,c.fleet.val,.int .i64 c.regime.gap,.bool c.regime.noMeet,.int .i64 c.crew.tugs,.int .i64 c.crew.pilots,.int .i64 c.crew.rest,c.crew.moves.val],.agg #[.int .i64 d.forecast.tide.mean,d.forecast.tide.parts.val,d.forecast.surges.val,d.chart.points.val,d.chart.segments.val,d.fleet.val,.int .i64 d.regime.gap,.bool d.regime.noMeet,.int .i64 d.crew.tugs,.int .i64 d.crew.pilots,.int .i64 d.crew.rest,d.crew.moves.val]] h fun v h'=>v=.bool (decide (jK c=jK d))∧h'=h:=by
 obtain ⟨a,i,j,f,m⟩:=r
 obtain ⟨b,k,l,g,n⟩:=s
 refine zdn (fun A W=>by simp) Tryz.func21 rfl rfl (by simp) fun W0=>?_
 repeat' first|refine Wa ?_|refine zhF (fun _=>zy4 _ _ _ a b) ?_|(simp only [go_sem,jq,jj,jy,jv,jk,jx];try rfl)|refine Wb ?_|fail
 refine zc9 rfl (fun h0=>?_) (fun h0=>?_)
 ·refine Wk ?_
  refine zjF fun e=>?_
  rw [zlq,zlq,PHarbour.mk.injEq] at e
  exact JF (by simpa only [jd] using h0) e.1
 repeat' first|refine Wa ?_|refine zhF (fun _=>zy1 _ _ _ i k) ?_|(simp only [go_sem,jq,jj,jy,jv,jk,jx];try rfl)|refine Wb ?_|fail
 refine zc9 rfl (fun o=>?_) (fun o=>?_)
 ·refine Wk ?_
  refine zjF fun e=>?_
  rw [zlq,zlq,PHarbour.mk.injEq] at e
  exact JF (by simpa only [jd] using o) e.2.1
 repeat' first|refine Wa ?_|refine zhF (fun _=>zyZ _ _ _ j l) ?_|(simp only [go_sem,jq,jj,jy,jv,jk,jx];try rfl)|refine Wb ?_|fail
 refine zc9 rfl (fun h2=>?_) (fun h2=>?_)
 ·refine Wk ?_
  refine zjF fun e=>?_
  rw [zlq,zlq,PHarbour.mk.injEq] at e
  exact JF (by simpa only [jd] using h2) e.2.2.1
 repeat' first|refine Wa ?_|refine zhF (fun _=>zyP _ _ _ f g) ?_|(simp only [go_sem,jq,jj,jy,jv,jk,jx];try rfl)|refine Wb ?_|fail
 refine zc9 rfl (fun p=>?_) (fun p=>?_)
 ·refine Wk ?_
  refine zjF fun e=>?_
  rw [zlq,zlq,PHarbour.mk.injEq] at e
  exact JF (by simpa only [jd] using p) e.2.2.2.1
 repeat' first|refine Wa ?_|refine zhF (fun _=>zyU _ _ _ m n) ?_|(simp only [go_sem,jq,jj,jy,jv,jk,jx];try rfl)|refine Wb ?_|fail
 refine zc9 rfl (fun q=>?_) (fun q=>?_)
 ·refine Wk ?_
  refine zjF fun e=>?_
  rw [zlq,zlq,PHarbour.mk.injEq] at e
  exact JF (by simpa only [jd] using q) e.2.2.2.2
 refine Wk ?_
 refine zjG ?_
 rw [zlq,zlq,PHarbour.mk.injEq]
 exact ⟨JE (by simpa only [jf] using h0),JE (by simpa only [jf] using o),JE (by simpa only [jf] using h2),JE (by simpa only [jf] using p),JE (by simpa only [jf] using q)⟩
theorem zy8 (a b:Sl DBranch) (h:Hp) (g:a.Ok h) (i:b.Ok h):Ct jV 76 [a.val,b.val] h fun v h'=>v=.bool (decide (jK a=jK b))∧h'=h:=by
 have u:=g.max
 have q:(jK a).length=a.l.length:=jH ..
 have r:(jK b).length=b.l.length:=jH ..
 refine zdn (fun A W=>by simp) Tryz.func76 rfl rfl (by simp) fun W0=>?_
 refine Wk ?_
 refine zc9 rfl (fun j=>?_) (fun j=>?_)
 ·refine Wk ?_
  exact zjF fun e=>zjD j (by rw [← q,← r,e])
 have s:a.l.length=b.l.length:=by have:=zjE j;omega
 refine Wk ?_
 refine zde (ι:=Nat) (fun k=>⟨[(0,true,.c (.v a.val)),(1,true,.c (.v b.val)),(5,true,.c (.v (.int .i64 k)))],[],h,0⟩) (fun k=>k≤a.l.length∧(jK a).take k=(jK b).take k) (fun k=>a.l.length - k) 0 ⟨jC _,rfl⟩ ?_ ?_
 ·refine Evs ?_
  rfl
 intro k n
 refine Wk ?_
 refine zc9 rfl (fun j=>?_) (fun j=>?_)
 ·have f:=zjH j
  have d:k < b.l.length:=by omega
  have o:(jK a)[k]'(by omega)=jK a.l[k]:=qH ..
  have p:(jK b)[k]'(by omega)=jK b.l[k]:=qH ..
  refine Wk ?_
  refine ziV rfl ?_
  refine zi3 [0,1,2,3,4,5,6,7] rfl (by kernel_rfl) ?_
  simp only [go_sem,jq,jj,jy,jv,jk,jx,zlv g f,g.some f,zlv i d,i.some d,f,d]
  refine ziT [8] (by kernel_rfl) (by kernel_rfl) ?_
  simp only [go_sem,jq,jj,jy,jv,jk,jx,zlv g f,g.some f,zlv i d,i.some d,f,d]
  refine zhF (fun _=>zy6 _ _ _ (g.el f) (i.el d)) ?_
  simp only [go_sem,jq,jj,jy,jv,jk,jx,zlv g f,g.some f,zlv i d,i.some d,f,d]
  refine zi3 [9] rfl (by kernel_rfl) ?_
  refine Evs ?_
  refine ziU (by kernel_rfl) ?_
  refine Wk ?_
  refine zc9 rfl (fun m=>?_) (fun m=>?_)
  ·refine Wk ?_
   refine zjF fun e=>(JF (by simpa only [jd] using m):¬ jK a.l[k]=jK b.l[k]) ?_
   rw [← o,← p];simp only [e]
  ·refine Wk ?_
   exact ⟨k+1,⟨f,zjC (by omega) (by omega) n.2 (by rw [o,p];exact JE (by simpa only [jf] using m))⟩,by omega,zjB (zjA f (by omega))⟩
 ·have t:=zjI j
  refine Wk ?_
  refine zjG ?_
  have:=n.2
  rwa [qy (by omega),qy (by omega)] at this
theorem zy9 (c d:DStrategy) (h:Hp) (j:jD h c) (k:jD h d):Ct jV 20 [.agg #[.int .i64 c.minute,c.branches.val],.agg #[.int .i64 d.minute,d.branches.val]] h fun v h'=>v=.bool (decide (jK c=jK d))∧h'=h:=by
 obtain ⟨f,a⟩:=j
 obtain ⟨g,b⟩:=k
 refine zdn (fun A W=>by simp) Tryz.func20 rfl rfl (by simp) fun W0=>?_
 refine Wk ?_
 refine zc9 rfl (fun h0=>?_) (fun h0=>?_)
 ·refine Wk ?_
  refine zjF fun e=>?_
  rw [zlx,zlx,PStrategy.mk.injEq] at e
  exact zjD h0 e.1
 repeat' first|refine Wa ?_|refine zhF (fun _=>zy8 _ _ _ a b) ?_|(simp only [go_sem,jq,jj,jy,jv,jk,jx];try rfl)|refine Wb ?_|fail
 refine zc9 rfl (fun i=>?_) (fun i=>?_)
 ·refine Wk ?_
  refine zjF fun e=>?_
  rw [zlx,zlx,PStrategy.mk.injEq] at e
  exact JF (by simpa only [jd] using i) e.2
 refine Wk ?_
 refine zjG ?_
 rw [zlx,zlx,PStrategy.mk.injEq]
 exact ⟨zjE h0,JE (by simpa only [jf] using i)⟩
theorem zz9 (n:Int):bstr [n]=⟨#[UInt8.ofNat n.toNat]⟩:=rfl
theorem zAa (a b:List UInt8):(⟨a.toArray⟩:ByteArray) ++ ⟨b.toArray⟩=⟨(a ++ b).toArray⟩:=by
 ext1
 simp [ByteArray.data_append]
theorem zAb:∀ (f n:Nat) (acc:List UInt8),zms f n acc=zms f n [] ++ acc
 | 0,_,acc=>rfl
 | f+1,n,acc=>by
  unfold zms
  split
  ·rfl
  ·rw [zAb f _ (_ :: acc),zAb f _ [_]];simp
theorem zAc:∀ (f n:Nat),(zms f n []).length≤f
 | 0,_=>qV _
 | f+1,n=>by
  unfold zms
  split
  ·exact jC _
  ·rw [zAb,jP];have:=zAc f (n / 10);simp only [qv,qY];omega
theorem zAd {f:Nat} {acc:List UInt8}:zms f 0 acc=acc:=by cases f <;> rfl
theorem zAe (k:Int):(mkT k).size≤65:=by
 unfold mkT
 show (List.toArray _).size≤65
 rw [qK,qv]
 split
 ·simp
 ·have:=zAc 64 k.toNat;omega
theorem zAf (k:Int) (h:Hp) (t:k≤4611686018427387904):Ct jV 162 [.int .i64 k] h fun v h'=>v=.string (mkT k)∧h'=h:=by
 refine Ct.forget ?_
 refine zdn (fun A W=>by simp) Tryz.func162 rfl rfl (by simp) fun W0=>?_
 refine Wk ?_
 refine zc9 rfl (fun a=>?_) (fun a=>?_)
 ·refine Wk ?_
  rw [mkT,if_pos (JE a)]
 have a:=JF a
 refine Wk ?_
 refine zng (ι:=Nat × Nat × List UInt8) (fun i=>⟨[(0,true,.c (.v (.int .i64 (i.2.1:Int)))),(3,true,.c (.v (.string ⟨i.2.2.toArray⟩)))],[],h,0⟩) (fun i=>zms i.1 i.2.1 i.2.2=zms 64 k.toNat []∧i.2.1 < 10 ^ i.1∧i.1+i.2.2.length=64∧i.2.1≤4611686018427387904) (fun i=>i.1) (64,k.toNat,[]) ⟨rfl,by simp only;omega,rfl,by simp only;omega⟩ [] ?_ ?_
 ·refine Evs ?_
  refine ⟨zjB ?_,rfl⟩
  omega
 rintro ⟨f,n,acc⟩ ⟨b,h2,p,q⟩
 simp only at b h2 p q
 refine Wk ?_
 refine zc9 rfl (fun e=>?_) (fun e=>?_)
 ·have g:0 < n:=by have:=JE e;omega
  obtain ⟨f,rfl⟩:∃ r,f=r+1:=⟨f - 1,by cases f with|zero=>simp at h2;omega|succ f=>rfl⟩
  have s:Jx (n:Int) 10=((n % 10:Nat):Int):=by rw [Int.tmod_eq_emod_of_nonneg (by omega)];omega
  have j:IntKind.i64.wrap (48+((n % 10:Nat):Int))=((48+n % 10:Nat):Int):=by rw [zjz (by omega)];omega
  have l:IntKind.u8.wrap ((48+n % 10:Nat):Int)=((48+n % 10:Nat):Int):=by
   have:n % 10 < 10:=Nat.mod_lt _ (by decide)
   show (((48+n % 10:Nat):Int)) % 256=_
   omega
  have m:yY (n:Int) 10=((n / 10:Nat):Int):=by rw [Int.tdiv_eq_ediv_of_nonneg (by omega)];omega
  have d:IntKind.i64.wrap ((n / 10:Nat):Int)=((n / 10:Nat):Int):=zjz (by omega)
  refine zc5 ?_
  refine Evs ?_
  refine zc8 ?_
  refine zzr [0,0,0,0,0,4] rfl ?_
  simp only [go_sem,jq,jj,jy,jv,jk,jx,s,j,l]
  refine ⟨by decide,?_⟩
  refine zzs (ns:=[((48+n % 10:Nat):Int)]) rfl rfl Tryz.underlying279 Tryz.underlying5 Tryz.underlying9 ?_
  refine Evs ?_
  have o:(bstr [((48+n % 10:Nat):Int)]).size=1:=rfl
  refine ⟨by rw [o,qK];omega,?_⟩
  repeat' first|refine Wa ?_|(simp only [go_sem,jq,jj,jy,jv,jk,jx,m,d];try rfl)|refine Wb ?_|fail
  refine ⟨by decide,?_⟩
  repeat' first|refine Wa ?_|(simp only [go_sem,jq,jj,jy,jv,jk,jx,m,d];try rfl)|refine Wb ?_|fail
  refine ⟨(f,n / 10,UInt8.ofNat (48+n % 10) :: acc),[],⟨?_,?_,?_,?_⟩,by simp only;omega,?_⟩
  ·simp only
   rw [← b]
   conv=>rhs;unfold zms
   rw [if_neg (by omega)]
  ·simp only
   rw [Nat.pow_succ] at h2
   omega
  ·simp only [qv];omega
  ·simp only;omega
  refine Evs ?_
  refine ⟨?_,rfl⟩
  rw [zz9,jW]
  congr 5
 ·have g:n=0:=by have:=JF e;omega
  subst g
  rw [zAd] at b
  refine Wk ?_
  refine ⟨by rw [qK];simp;omega,?_⟩
  refine Wk ?_
  rw [mkT,if_neg a,← b]
  exact congrArg Value.string (zAa [109] acc)
end Go.Proofs.YtbkaaakphpbmiaaGreat
