/- What functions of the given program compute, as contracts. -/
import Derived.Test.YtbkaaakphpbmiaaGreatSWaitStrategyx2
import Derived.Test.YtbkaaakphpbmiaaGreatXWaitStrategy4
import Derived.Test.YtbkaaakphpbmiaaGreatXWaitStrategy5
set_option linter.unusedVariables false
set_option linter.unusedSimpArgs false
set_option maxRecDepth 4000
open Nat renaming reduceAdd → jq, reduceMul → jj, reduceBEq → jy, reduceLeDiff → jv, reduceLT → jk, reduceEqDiff → jx, zero_add → jb, zero_mul → jA, zero_le → jC, add_zero → qJ, le_refl → qV, not_lt_zero → qE, mul_one → wy, le_trans → wK, eq_zero_or_pos → we, le_antisymm → wE
open Bool renaming or_eq_false_iff → jp, or_eq_true → jQ, and_eq_true → jJ, not_eq_true' → jd, not_eq_false' → jf, true_and → qp, false_eq_true → qW, and_false → qP, false_ne_true → qa, false_and → qc, not_false → wq, not_true → wj, and_true → wJ, false_or → wa, or_false → wC, eq_iff_iff → yq, true_or → yw, or_true → uw, and_self → uk
open Int renaming toNat_natCast → jW, toNat_zero → je, le_refl → qF, add_assoc → yc, reduceAdd → yd, tmod → Jx
open Go.SL.Con renaming con → jK
open Option renaming isSome_some → jX, map_some → qq
open List renaming getD_eq_getElem?_getD → ja, toList_toArray → jE, length_map → jH, take_succ_eq_append_getElem → qw, take_of_length_le → qy, length_cons → qv, length_nil → qY, size_toArray → qK, getElem_mem → qd, mem_cons_of_mem → qg, mem_cons_self → qC, take_length → qG, getElem_of_mem → qL, map_map → yj, foldl_append → yp, mem_or_eq_of_mem_set → yX, mem_append → ye, nodup_append → yE, map_id → ux, take → Jq
open Go.SL.Enc renaming ok → jD, enc → qx, size → wA
open Go.SL.Foot renaming foot → qj, own → wX, dom → wD
open Go.SL.Mk renaming put → qb, cnt → wd
open Go.SL.Hp renaming ins_ins → qf, ins_same → qD, ins_ne → JJ
open Go.Proofs.Tryz renaming prog → jV
namespace Go.Proofs.YtbkaaakphpbmiaaGreat
open Go Go.SL
set_option maxHeartbeats 1000000
theorem zAg (s:Sl Int) (k:Int) (h:Hp) (n:s.Ok h) (G:wX h s) (hn:(qj s).Nodup) (hk:0≤k∧k+(wd s:Nat)≤4611686018427387904):Cw jV 26 [s.val,.int .i64 k] h (fun b=>b ∈ qj s) fun v h'=>v=.int .i64 (k+(wd s:Nat))∧jD h' (qb s k)∧wX h' (qb s k):=by
 have X:=n.max
 have w:wd s=cntL s.l:=rfl
 by_cases f:s.l=[]
 ·refine zlK (fun A W=>by simp) Tryz.func26 rfl rfl (by simp)  (fun b o=>wD G b o) fun W0 M=>?_
  refine Wk ?_
  refine zde (ι:=Unit) (fun _=>⟨[(0,true,.c (.v s.val)),(1,true,.c (.v (.int .i64 k))),(5,true,.c (.v (.int .i64 0)))],[],h,0⟩) (fun _=>True) (fun _=>0) () trivial ?_ ?_
  ·exact Evc
  rintro _ _
  refine Wk ?_
  refine zc9 rfl (fun t=>?_) (fun t=>?_)
  ·exact absurd (JE t) (by rw [f];simp)
  ·refine Wk ?_
   refine ⟨by rw [w,f];simp [cntL],⟨(by simp [qb,f,mkL]),fun p=>(p (by simp [qb,f,mkL])).elim,fun i x d=>by simp [qb,f,mkL] at d,fun x d=>by simp [qb,f,mkL] at d,n.2.2.2.2⟩,fun p=>(p (by simp [qb,f,mkL])).elim⟩
 obtain ⟨g,e,j,q,o,N⟩:=zmr (by decide) n G f
 have O:wA Int=1:=rfl
 have u:g ∈ qj s:=by
  rw [show qj s=_ from Sl.foot_ne f]
  simp [Sl.blkOf,q]
 refine zlK (fun A W=>by simp) Tryz.func26 rfl rfl (by simp)  (fun b o=>wD G b o) fun W0 M=>?_
 refine Wk ?_
 refine zde (ι:=Nat × Hp) (fun i=>⟨[(0,true,.c (.v s.val)),(1,true,.c (.v (.int .i64 (k+(cntL (s.l.take i.1):Nat))))),(5,true,.c (.v (.int .i64 i.1)))],[],i.2,0⟩) (fun i=>i.1≤s.l.length∧i.2 g=some (.cells (rowL (mkd s.l k i.1) j).toArray e (0,0))∧∀ x ∈ mkd s.l k i.1,jD i.2 x) (fun i=>s.l.length - i.1) (0,h) ⟨jC _,by rw [zmg];exact o,by rw [zmg];exact n.2.2.2.1⟩ ?_ ?_
 ·refine Evs ?_
  exact ⟨zjB (by rw [zl8];omega),rfl⟩
 rintro ⟨i,y⟩ ⟨Y,m,r⟩
 refine Wk ?_
 refine zc9 rfl (fun H=>?_) (fun H=>?_)
 ·have a:=zjH H
  have J:=zme a
  have Z:=zmf (l:=s.l) (i:=i+1)
  have t:wd s.l[i]=1:=rfl
  generalize hκ:k+((cntL (s.l.take i):Nat):Int)=κ
  have aa:0≤κ∧κ+1≤4611686018427387904:=by omega
  have K:i * 1+1≤(rowL (mkd s.l k i) j).length:=by rw [zml,zmi,O];omega
  generalize hX:rowL (mkd s.l k i) j=X0 at m K
  refine zc5 ?_
  refine Evs ?_
  refine zc3 ?_
  refine zc8 ?_
  refine zlU [0,0,0,0,1] rfl ?_
  simp only [go_sem,jq,jj,jy,jv,jk,jx,q,a,qq,za4,jX,jW,jb,qJ,jE,qf]
  refine zl5 (by simp only [go_sem]) (by simp only [go_sem]) rfl rfl m (.inr (M _ u)) (by simp only [qK];omega) ?_
  simp only [go_sem,jq,jj,jy,jv,jk,jx,q,a,qq,za4,jX,jW,jb,qJ,jE,qf]
  refine zc4 rfl ?_
  refine Evs ?_
  rw [zjz (by omega)]
  refine Wk ?_
  refine ⟨(i+1,y.ins g (.cells (spl (i * 1) [.int .i64 (κ)] X0).toArray e (0,0))),⟨a,?_,fun x d=>?_⟩,by simp only;omega,?_⟩
  ·rw [← zmk a,← zmm (by rw [zmi];exact a),hX]
   simp only
   rw [qD]
   congr 4
   simp only [show k+((cntL (Jq i s.l):Nat):Int)=κ from hκ,qb,qx]
   try simp only [mkB,yc,yd]
   try rfl
  ·simp only at d ⊢
   rw [← zmk a] at d
   rcases yX d with d|rfl
   ·exact r x d
   ·exact (show I64 (qb (α:=Int) _ _) from by show I64 (_+_);unfold I64;omega)
  ·refine Evs ?_
   exact ⟨zjB (by rw [J,t];omega),zjB (zjA a (by omega))⟩
 ·have z:=zjI H
  have Q:i=s.l.length:=wE Y z
  refine Wk ?_
  have hp:mkd s.l k i=(qb s k).l:=zmh z
  rw [hp] at m r
  have D:(qb s k).l.length=s.l.length:=zmb
  have F:=zmq (α:=Int) (h:=y) (g:=g) (cap:=s.cap) (by decide) m (by rw [D];exact n.1) n.2.2.2.2 r
  have R:(Sl.mk (some ⟨g,0,none⟩) s.cap (qb s k).l:Sl Int)=qb s k:=by rw [← q];rfl
  rw [R] at F
  refine ⟨by rw [Q,qG,w],F,fun _=>⟨⟨g,_,e,q,m,?_⟩,fun x d=>trivial⟩⟩
  rw [qK,zml,D,N]
  rfl
theorem zAh (s:Sl DCall) (k:Int) (h:Hp) (r:s.Ok h) (K:wX h s) (hn:(qj s).Nodup) (hk:0≤k∧k+(wd s:Nat)≤4611686018427387904):Cw jV 25 [s.val,.int .i64 k] h (fun b=>b ∈ qj s) fun v h'=>v=.int .i64 (k+(wd s:Nat))∧jD h' (qb s k)∧wX h' (qb s k):=by
 have ae:=r.max
 have D:wd s=cntL s.l:=rfl
 by_cases o:s.l=[]
 ·refine zlK (fun A W=>by simp) Tryz.func25 rfl rfl (by simp)  (fun b u=>wD K b u) fun W0 t=>?_
  refine Wk ?_
  refine zde (ι:=Unit) (fun _=>⟨[(0,true,.c (.v s.val)),(1,true,.c (.v (.int .i64 k))),(5,true,.c (.v (.int .i64 0)))],[],h,0⟩) (fun _=>True) (fun _=>0) () trivial ?_ ?_
  ·exact Evc
  rintro _ _
  refine Wk ?_
  refine zc9 rfl (fun z=>?_) (fun z=>?_)
  ·exact absurd (JE z) (by rw [o];simp)
  ·refine Wk ?_
   refine ⟨by rw [D,o];simp [cntL],⟨(by simp [qb,o,mkL]),fun w=>(w (by simp [qb,o,mkL])).elim,fun i x n=>by simp [qb,o,mkL] at n,fun x n=>by simp [qb,o,mkL] at n,r.2.2.2.2⟩,fun w=>(w (by simp [qb,o,mkL])).elim⟩
 obtain ⟨g,e,p,j,u,Z⟩:=zmr (by decide) r K o
 have aa:wA DCall=5:=rfl
 have f:g ∈ qj s:=by
  rw [show qj s=_ from Sl.foot_ne o]
  simp [Sl.blkOf,j]
 refine zlK (fun A W=>by simp) Tryz.func25 rfl rfl (by simp)  (fun b u=>wD K b u) fun W0 t=>?_
 refine Wk ?_
 refine zde (ι:=Nat × Hp) (fun i=>⟨[(0,true,.c (.v s.val)),(1,true,.c (.v (.int .i64 (k+(cntL (s.l.take i.1):Nat))))),(5,true,.c (.v (.int .i64 i.1)))],[],i.2,0⟩) (fun i=>i.1≤s.l.length∧i.2 g=some (.cells (rowL (mkd s.l k i.1) p).toArray e (0,0))∧∀ x ∈ mkd s.l k i.1,jD i.2 x) (fun i=>s.l.length - i.1) (0,h) ⟨jC _,by rw [zmg];exact u,by rw [zmg];exact r.2.2.2.1⟩ ?_ ?_
 ·refine Evs ?_
  exact ⟨zjB (by rw [zl8];omega),rfl⟩
 rintro ⟨i,F⟩ ⟨hi,q,y⟩
 refine Wk ?_
 refine zc9 rfl (fun M=>?_) (fun M=>?_)
 ·have a:=zjH M
  have N:=zme a
  have ag:=zmf (l:=s.l) (i:=i+1)
  have z:wd s.l[i]=5:=rfl
  generalize hκ:k+((cntL (s.l.take i):Nat):Int)=κ
  have ah:0≤κ∧κ+5≤4611686018427387904:=by omega
  have O:i * 5+5≤(rowL (mkd s.l k i) p).length:=by rw [zml,zmi,aa];omega
  generalize hX:rowL (mkd s.l k i) p=d at q O
  refine zc5 ?_
  refine Evs ?_
  refine zc3 ?_
  refine zc8 ?_
  refine zlU [0,0,0,0,0,1] rfl ?_
  simp only [go_sem,jq,jj,jy,jv,jk,jx,j,a,qq,za4,jX,jW,jb,qJ,jE,qf]
  refine zl5 (by simp only [go_sem]) (by simp only [go_sem]) rfl rfl q (.inr (t _ f)) (by simp only [qK];omega) ?_
  simp only [go_sem,jq,jj,jy,jv,jk,jx,j,a,qq,za4,jX,jW,jb,qJ,jE,qf]
  refine zie rfl ?_
  refine Evs ?_
  rw [zjz (by omega)]
  have Q:(spl (i * 5) [.int .i64 (κ)] d).length=d.length:=zmp (by simp only [qv,qY];omega)
  refine zlU [0,0,0,0,0,1] rfl ?_
  simp only [go_sem,jq,jj,jy,jv,jk,jx,j,a,qq,za4,jX,jW,jb,qJ,jE,qf]
  refine zl5 (by simp only [go_sem]) (by simp only [go_sem]) rfl rfl qD (.inr (t _ f)) (by simp only [qK,Q];omega) ?_
  simp only [go_sem,jq,jj,jy,jv,jk,jx,j,a,qq,za4,jX,jW,jb,qJ,jE,qf]
  rw [show spl (i * 5+1) [.int .i64 (κ+1)] (spl (i * 5) [.int .i64 (κ)] d)=spl (i * 5) [.int .i64 (κ),.int .i64 (κ+1)] d from zmo (m:=[.int .i64 (κ)]) (by simp only [qv,qY];omega)]
  refine zie rfl ?_
  refine Evs ?_
  rw [zjz (by omega)]
  have R:(spl (i * 5) [.int .i64 (κ),.int .i64 (κ+1)] d).length=d.length:=zmp (by simp only [qv,qY];omega)
  refine zlU [0,0,0,0,0,1] rfl ?_
  simp only [go_sem,jq,jj,jy,jv,jk,jx,j,a,qq,za4,jX,jW,jb,qJ,jE,qf]
  refine zl5 (by simp only [go_sem]) (by simp only [go_sem]) rfl rfl qD (.inr (t _ f)) (by simp only [qK,R];omega) ?_
  simp only [go_sem,jq,jj,jy,jv,jk,jx,j,a,qq,za4,jX,jW,jb,qJ,jE,qf]
  rw [show spl (i * 5+2) [.int .i64 (κ+1+1)] (spl (i * 5) [.int .i64 (κ),.int .i64 (κ+1)] d)=spl (i * 5) [.int .i64 (κ),.int .i64 (κ+1),.int .i64 (κ+1+1)] d from zmo (m:=[.int .i64 (κ),.int .i64 (κ+1)]) (by simp only [qv,qY];omega)]
  refine zie rfl ?_
  refine Evs ?_
  rw [zjz (by omega)]
  have X:(spl (i * 5) [.int .i64 (κ),.int .i64 (κ+1),.int .i64 (κ+1+1)] d).length=d.length:=zmp (by simp only [qv,qY];omega)
  refine zlU [0,0,0,0,0,1] rfl ?_
  simp only [go_sem,jq,jj,jy,jv,jk,jx,j,a,qq,za4,jX,jW,jb,qJ,jE,qf]
  refine zl5 (by simp only [go_sem]) (by simp only [go_sem]) rfl rfl qD (.inr (t _ f)) (by simp only [qK,X];omega) ?_
  simp only [go_sem,jq,jj,jy,jv,jk,jx,j,a,qq,za4,jX,jW,jb,qJ,jE,qf]
  rw [show spl (i * 5+3) [.int .i64 (κ+1+1+1)] (spl (i * 5) [.int .i64 (κ),.int .i64 (κ+1),.int .i64 (κ+1+1)] d)=spl (i * 5) [.int .i64 (κ),.int .i64 (κ+1),.int .i64 (κ+1+1),.int .i64 (κ+1+1+1)] d from zmo (m:=[.int .i64 (κ),.int .i64 (κ+1),.int .i64 (κ+1+1)]) (by simp only [qv,qY];omega)]
  refine zie rfl ?_
  refine Evs ?_
  rw [zjz (by omega)]
  have Y:(spl (i * 5) [.int .i64 (κ),.int .i64 (κ+1),.int .i64 (κ+1+1),.int .i64 (κ+1+1+1)] d).length=d.length:=zmp (by simp only [qv,qY];omega)
  refine zlU [0,0,0,0,0,1] rfl ?_
  simp only [go_sem,jq,jj,jy,jv,jk,jx,j,a,qq,za4,jX,jW,jb,qJ,jE,qf]
  refine zl5 (by simp only [go_sem]) (by simp only [go_sem]) rfl rfl qD (.inr (t _ f)) (by simp only [qK,Y];omega) ?_
  simp only [go_sem,jq,jj,jy,jv,jk,jx,j,a,qq,za4,jX,jW,jb,qJ,jE,qf]
  rw [show spl (i * 5+4) [.int .i64 (κ+1+1+1+1)] (spl (i * 5) [.int .i64 (κ),.int .i64 (κ+1),.int .i64 (κ+1+1),.int .i64 (κ+1+1+1)] d)=spl (i * 5) [.int .i64 (κ),.int .i64 (κ+1),.int .i64 (κ+1+1),.int .i64 (κ+1+1+1),.int .i64 (κ+1+1+1+1)] d from zmo (m:=[.int .i64 (κ),.int .i64 (κ+1),.int .i64 (κ+1+1),.int .i64 (κ+1+1+1)]) (by simp only [qv,qY];omega)]
  refine zc4 rfl ?_
  refine Evs ?_
  rw [zjz (by omega)]
  refine Wk ?_
  refine ⟨(i+1,F.ins g (.cells (spl (i * 5) [.int .i64 (κ),.int .i64 (κ+1),.int .i64 (κ+1+1),.int .i64 (κ+1+1+1),.int .i64 (κ+1+1+1+1)] d).toArray e (0,0))),⟨a,?_,fun x n=>?_⟩,by simp only;omega,?_⟩
  ·rw [← zmk a,← zmm (by rw [zmi];exact a),hX]
   simp only
   rw [qD]
   congr 4
   simp only [show k+((cntL (Jq i s.l):Nat):Int)=κ from hκ,qb,qx,DCall.cells]
   try simp only [mkB,yc,yd]
   try rfl
  ·simp only at n ⊢
   rw [← zmk a] at n
   rcases yX n with n|rfl
   ·exact y x n
   ·exact (show I64 _∧I64 _∧I64 _∧I64 _∧I64 _ from by unfold I64;simp only [qb];omega)
  ·refine Evs ?_
   exact ⟨zjB (by rw [N,z];omega),zjB (zjA a (by omega))⟩
 ·have G:=zjI M
  have ab:i=s.l.length:=wE hi G
  refine Wk ?_
  have hp:mkd s.l k i=(qb s k).l:=zmh G
  rw [hp] at q y
  have H:(qb s k).l.length=s.l.length:=zmb
  have J:=zmq (α:=DCall) (h:=F) (g:=g) (cap:=s.cap) (by decide) q (by rw [H];exact r.1) r.2.2.2.2 y
  have ac:(Sl.mk (some ⟨g,0,none⟩) s.cap (qb s k).l:Sl DCall)=qb s k:=by rw [← j];rfl
  rw [ac] at J
  refine ⟨by rw [ab,qG,D],J,fun _=>⟨⟨g,_,e,j,q,?_⟩,fun x n=>trivial⟩⟩
  rw [qK,zml,H,Z]
  rfl
theorem zAi (c:DCrew) (k:Int) (h:Hp) (d:jD h c) (i:wX h c) (m:(qj c).Nodup) (t:0≤k∧k+(zmF c:Nat)≤4611686018427387904):Cw jV 86 [c.v,.int .i64 k] h (fun b=>b ∈ qj c) fun v h'=>v=.int .i64 (k+(zmF c:Nat))∧jD h' (zmE c k)∧wX h' (zmE c k):=by
 have j:=fun b e=>wD (x:=c) i b e
 have n:zmF c=wd c.moves:=rfl
 have g:qj c=qj c.moves:=rfl
 rw [g] at m
 rw [zmu] at i
 have l:∀ b,b ∈ qj c ↔ b ∈ qj c.moves:=fun b=>by rw [g]
 have f:jD h c.moves:=d.2.2.2
 have a:wX h c.moves:=i
 have o:(qj c.moves).Nodup:=m
 refine zlK (fun A W=>by simp) Tryz.func86 rfl rfl (by simp)  j fun W0 r=>?_
 refine zie rfl ?_
 refine Evs ?_
 refine zlU [0,0,0,1] rfl ?_
 refine Evs ?_
 refine zlL (x:=⟨jV,W0,h,_⟩) (zAg c.moves (k) _ f a o (by omega)) rfl (fun b e=>⟨wD (x:=c.moves) a b e,.inr (r b ((l b).2 e))⟩) ?_
 rintro v h0 s ⟨rfl,p,q⟩
 refine Evs ?_
 repeat' first|refine Wa ?_|(simp only [go_sem,jq,jj,jy,jv,jk,jx];try rfl)|refine zc3 ?_
 exact ⟨by rw [n],⟨d.1,d.2.1,d.2.2.1,p⟩,q⟩
theorem zAj (s:Sl DPart) (k:Int) (h:Hp) (r:s.Ok h) (K:wX h s) (hn:(qj s).Nodup) (hk:0≤k∧k+(wd s:Nat)≤4611686018427387904):Cw jV 226 [s.val,.int .i64 k] h (fun b=>b ∈ qj s) fun v h'=>v=.int .i64 (k+(wd s:Nat))∧jD h' (qb s k)∧wX h' (qb s k):=by
 have ab:=r.max
 have D:wd s=cntL s.l:=rfl
 by_cases f:s.l=[]
 ·refine zlK (fun A W=>by simp) Tryz.func226 rfl rfl (by simp)  (fun b t=>wD K b t) fun W0 y=>?_
  refine Wk ?_
  refine zde (ι:=Unit) (fun _=>⟨[(0,true,.c (.v s.val)),(1,true,.c (.v (.int .i64 k))),(5,true,.c (.v (.int .i64 0)))],[],h,0⟩) (fun _=>True) (fun _=>0) () trivial ?_ ?_
  ·exact Evc
  rintro _ _
  refine Wk ?_
  refine zc9 rfl (fun z=>?_) (fun z=>?_)
  ·exact absurd (JE z) (by rw [f];simp)
  ·refine Wk ?_
   refine ⟨by rw [D,f];simp [cntL],⟨(by simp [qb,f,mkL]),fun u=>(u (by simp [qb,f,mkL])).elim,fun i x d=>by simp [qb,f,mkL] at d,fun x d=>by simp [qb,f,mkL] at d,r.2.2.2.2⟩,fun u=>(u (by simp [qb,f,mkL])).elim⟩
 obtain ⟨g,e,j,n,t,X⟩:=zmr (by decide) r K f
 have Y:wA DPart=3:=rfl
 have o:g ∈ qj s:=by
  rw [show qj s=_ from Sl.foot_ne f]
  simp [Sl.blkOf,n]
 refine zlK (fun A W=>by simp) Tryz.func226 rfl rfl (by simp)  (fun b t=>wD K b t) fun W0 y=>?_
 refine Wk ?_
 refine zde (ι:=Nat × Hp) (fun i=>⟨[(0,true,.c (.v s.val)),(1,true,.c (.v (.int .i64 (k+(cntL (s.l.take i.1):Nat))))),(5,true,.c (.v (.int .i64 i.1)))],[],i.2,0⟩) (fun i=>i.1≤s.l.length∧i.2 g=some (.cells (rowL (mkd s.l k i.1) j).toArray e (0,0))∧∀ x ∈ mkd s.l k i.1,jD i.2 x) (fun i=>s.l.length - i.1) (0,h) ⟨jC _,by rw [zmg];exact t,by rw [zmg];exact r.2.2.2.1⟩ ?_ ?_
 ·refine Evs ?_
  exact ⟨zjB (by rw [zl8];omega),rfl⟩
 rintro ⟨i,F⟩ ⟨hi,q,w⟩
 refine Wk ?_
 refine zc9 rfl (fun M=>?_) (fun M=>?_)
 ·have a:=zjH M
  have N:=zme a
  have ac:=zmf (l:=s.l) (i:=i+1)
  have z:wd s.l[i]=3:=rfl
  generalize hκ:k+((cntL (s.l.take i):Nat):Int)=κ
  have ae:0≤κ∧κ+3≤4611686018427387904:=by omega
  have O:i * 3+3≤(rowL (mkd s.l k i) j).length:=by rw [zml,zmi,Y];omega
  generalize hX:rowL (mkd s.l k i) j=p at q O
  refine zc5 ?_
  refine Evs ?_
  refine zc3 ?_
  refine zc8 ?_
  refine zlU [0,0,0,0,0,1] rfl ?_
  simp only [go_sem,jq,jj,jy,jv,jk,jx,n,a,qq,za4,jX,jW,jb,qJ,jE,qf]
  refine zl5 (by simp only [go_sem]) (by simp only [go_sem]) rfl rfl q (.inr (y _ o)) (by simp only [qK];omega) ?_
  simp only [go_sem,jq,jj,jy,jv,jk,jx,n,a,qq,za4,jX,jW,jb,qJ,jE,qf]
  refine zie rfl ?_
  refine Evs ?_
  rw [zjz (by omega)]
  have Q:(spl (i * 3) [.int .i64 (κ)] p).length=p.length:=zmp (by simp only [qv,qY];omega)
  refine zlU [0,0,0,0,0,1] rfl ?_
  simp only [go_sem,jq,jj,jy,jv,jk,jx,n,a,qq,za4,jX,jW,jb,qJ,jE,qf]
  refine zl5 (by simp only [go_sem]) (by simp only [go_sem]) rfl rfl qD (.inr (y _ o)) (by simp only [qK,Q];omega) ?_
  simp only [go_sem,jq,jj,jy,jv,jk,jx,n,a,qq,za4,jX,jW,jb,qJ,jE,qf]
  rw [show spl (i * 3+1) [.int .i64 (κ+1)] (spl (i * 3) [.int .i64 (κ)] p)=spl (i * 3) [.int .i64 (κ),.int .i64 (κ+1)] p from zmo (m:=[.int .i64 (κ)]) (by simp only [qv,qY];omega)]
  refine zie rfl ?_
  refine Evs ?_
  rw [zjz (by omega)]
  have R:(spl (i * 3) [.int .i64 (κ),.int .i64 (κ+1)] p).length=p.length:=zmp (by simp only [qv,qY];omega)
  refine zlU [0,0,0,0,0,1] rfl ?_
  simp only [go_sem,jq,jj,jy,jv,jk,jx,n,a,qq,za4,jX,jW,jb,qJ,jE,qf]
  refine zl5 (by simp only [go_sem]) (by simp only [go_sem]) rfl rfl qD (.inr (y _ o)) (by simp only [qK,R];omega) ?_
  simp only [go_sem,jq,jj,jy,jv,jk,jx,n,a,qq,za4,jX,jW,jb,qJ,jE,qf]
  rw [show spl (i * 3+2) [.int .i64 (κ+1+1)] (spl (i * 3) [.int .i64 (κ),.int .i64 (κ+1)] p)=spl (i * 3) [.int .i64 (κ),.int .i64 (κ+1),.int .i64 (κ+1+1)] p from zmo (m:=[.int .i64 (κ),.int .i64 (κ+1)]) (by simp only [qv,qY];omega)]
  refine zc4 rfl ?_
  refine Evs ?_
  rw [zjz (by omega)]
  refine Wk ?_
  refine ⟨(i+1,F.ins g (.cells (spl (i * 3) [.int .i64 (κ),.int .i64 (κ+1),.int .i64 (κ+1+1)] p).toArray e (0,0))),⟨a,?_,fun x d=>?_⟩,by simp only;omega,?_⟩
  ·rw [← zmk a,← zmm (by rw [zmi];exact a),hX]
   simp only
   rw [qD]
   congr 4
   simp only [show k+((cntL (Jq i s.l):Nat):Int)=κ from hκ,qb,qx,DPart.cells]
   try simp only [mkB,yc,yd]
   try rfl
  ·simp only at d ⊢
   rw [← zmk a] at d
   rcases yX d with d|rfl
   ·exact w x d
   ·exact (show I64 _∧I64 _∧I64 _ from by unfold I64;simp only [qb];omega)
  ·refine Evs ?_
   exact ⟨zjB (by rw [N,z];omega),zjB (zjA a (by omega))⟩
 ·have G:=zjI M
  have Z:i=s.l.length:=wE hi G
  refine Wk ?_
  have hp:mkd s.l k i=(qb s k).l:=zmh G
  rw [hp] at q w
  have H:(qb s k).l.length=s.l.length:=zmb
  have J:=zmq (α:=DPart) (h:=F) (g:=g) (cap:=s.cap) (by decide) q (by rw [H];exact r.1) r.2.2.2.2 w
  have aa:(Sl.mk (some ⟨g,0,none⟩) s.cap (qb s k).l:Sl DPart)=qb s k:=by rw [← n];rfl
  rw [aa] at J
  refine ⟨by rw [Z,qG,D],J,fun _=>⟨⟨g,_,e,n,q,?_⟩,fun x d=>trivial⟩⟩
  rw [qK,zml,H,X]
  rfl
theorem zAk (s:Sl DPassage) (k:Int) (h:Hp) (r:s.Ok h) (K:wX h s) (hn:(qj s).Nodup) (hk:0≤k∧k+(wd s:Nat)≤4611686018427387904):Cw jV 102 [s.val,.int .i64 k] h (fun b=>b ∈ qj s) fun v h'=>v=.int .i64 (k+(wd s:Nat))∧jD h' (qb s k)∧wX h' (qb s k):=by
 have ae:=r.max
 have D:wd s=cntL s.l:=rfl
 by_cases o:s.l=[]
 ·refine zlK (fun A W=>by simp) Tryz.func102 rfl rfl (by simp)  (fun b u=>wD K b u) fun W0 t=>?_
  refine Wk ?_
  refine zde (ι:=Unit) (fun _=>⟨[(0,true,.c (.v s.val)),(1,true,.c (.v (.int .i64 k))),(5,true,.c (.v (.int .i64 0)))],[],h,0⟩) (fun _=>True) (fun _=>0) () trivial ?_ ?_
  ·exact Evc
  rintro _ _
  refine Wk ?_
  refine zc9 rfl (fun z=>?_) (fun z=>?_)
  ·exact absurd (JE z) (by rw [o];simp)
  ·refine Wk ?_
   refine ⟨by rw [D,o];simp [cntL],⟨(by simp [qb,o,mkL]),fun w=>(w (by simp [qb,o,mkL])).elim,fun i x n=>by simp [qb,o,mkL] at n,fun x n=>by simp [qb,o,mkL] at n,r.2.2.2.2⟩,fun w=>(w (by simp [qb,o,mkL])).elim⟩
 obtain ⟨g,e,p,j,u,Z⟩:=zmr (by decide) r K o
 have aa:wA DPassage=5:=rfl
 have f:g ∈ qj s:=by
  rw [show qj s=_ from Sl.foot_ne o]
  simp [Sl.blkOf,j]
 refine zlK (fun A W=>by simp) Tryz.func102 rfl rfl (by simp)  (fun b u=>wD K b u) fun W0 t=>?_
 refine Wk ?_
 refine zde (ι:=Nat × Hp) (fun i=>⟨[(0,true,.c (.v s.val)),(1,true,.c (.v (.int .i64 (k+(cntL (s.l.take i.1):Nat))))),(5,true,.c (.v (.int .i64 i.1)))],[],i.2,0⟩) (fun i=>i.1≤s.l.length∧i.2 g=some (.cells (rowL (mkd s.l k i.1) p).toArray e (0,0))∧∀ x ∈ mkd s.l k i.1,jD i.2 x) (fun i=>s.l.length - i.1) (0,h) ⟨jC _,by rw [zmg];exact u,by rw [zmg];exact r.2.2.2.1⟩ ?_ ?_
 ·refine Evs ?_
  exact ⟨zjB (by rw [zl8];omega),rfl⟩
 rintro ⟨i,F⟩ ⟨hi,q,y⟩
 refine Wk ?_
 refine zc9 rfl (fun M=>?_) (fun M=>?_)
 ·have a:=zjH M
  have N:=zme a
  have ag:=zmf (l:=s.l) (i:=i+1)
  have z:wd s.l[i]=5:=rfl
  generalize hκ:k+((cntL (s.l.take i):Nat):Int)=κ
  have ah:0≤κ∧κ+5≤4611686018427387904:=by omega
  have O:i * 5+5≤(rowL (mkd s.l k i) p).length:=by rw [zml,zmi,aa];omega
  generalize hX:rowL (mkd s.l k i) p=d at q O
  refine zc5 ?_
  refine Evs ?_
  refine zc3 ?_
  refine zc8 ?_
  refine zlU [0,0,0,0,0,1] rfl ?_
  simp only [go_sem,jq,jj,jy,jv,jk,jx,j,a,qq,za4,jX,jW,jb,qJ,jE,qf]
  refine zl5 (by simp only [go_sem]) (by simp only [go_sem]) rfl rfl q (.inr (t _ f)) (by simp only [qK];omega) ?_
  simp only [go_sem,jq,jj,jy,jv,jk,jx,j,a,qq,za4,jX,jW,jb,qJ,jE,qf]
  refine zie rfl ?_
  refine Evs ?_
  rw [zjz (by omega)]
  have Q:(spl (i * 5) [.int .i64 (κ)] d).length=d.length:=zmp (by simp only [qv,qY];omega)
  refine zlU [0,0,0,0,0,1] rfl ?_
  simp only [go_sem,jq,jj,jy,jv,jk,jx,j,a,qq,za4,jX,jW,jb,qJ,jE,qf]
  refine zl5 (by simp only [go_sem]) (by simp only [go_sem]) rfl rfl qD (.inr (t _ f)) (by simp only [qK,Q];omega) ?_
  simp only [go_sem,jq,jj,jy,jv,jk,jx,j,a,qq,za4,jX,jW,jb,qJ,jE,qf]
  rw [show spl (i * 5+1) [.int .i64 (κ+1)] (spl (i * 5) [.int .i64 (κ)] d)=spl (i * 5) [.int .i64 (κ),.int .i64 (κ+1)] d from zmo (m:=[.int .i64 (κ)]) (by simp only [qv,qY];omega)]
  refine zie rfl ?_
  refine Evs ?_
  rw [zjz (by omega)]
  have R:(spl (i * 5) [.int .i64 (κ),.int .i64 (κ+1)] d).length=d.length:=zmp (by simp only [qv,qY];omega)
  refine zlU [0,0,0,0,0,0,0,1] rfl ?_
  simp only [go_sem,jq,jj,jy,jv,jk,jx,j,a,qq,za4,jX,jW,jb,qJ,jE,qf]
  refine ⟨by decide,?_⟩
  refine zl5 (by simp only [go_sem]) (by simp only [go_sem]) rfl rfl qD (.inr (t _ f)) (by simp only [qK,R];omega) ?_
  simp only [go_sem,jq,jj,jy,jv,jk,jx,j,a,qq,za4,jX,jW,jb,qJ,jE,qf]
  rw [show spl (i * 5+2) [.bool ((κ+1+1).tmod 3 == 0)] (spl (i * 5) [.int .i64 (κ),.int .i64 (κ+1)] d)=spl (i * 5) [.int .i64 (κ),.int .i64 (κ+1),.bool ((κ+1+1).tmod 3 == 0)] d from zmo (m:=[.int .i64 (κ),.int .i64 (κ+1)]) (by simp only [qv,qY];omega)]
  refine zie rfl ?_
  refine Evs ?_
  rw [zjz (by omega)]
  have X:(spl (i * 5) [.int .i64 (κ),.int .i64 (κ+1),.bool ((κ+1+1).tmod 3 == 0)] d).length=d.length:=zmp (by simp only [qv,qY];omega)
  refine zlU [0,0,0,0,0,1] rfl ?_
  simp only [go_sem,jq,jj,jy,jv,jk,jx,j,a,qq,za4,jX,jW,jb,qJ,jE,qf]
  refine zl5 (by simp only [go_sem]) (by simp only [go_sem]) rfl rfl qD (.inr (t _ f)) (by simp only [qK,X];omega) ?_
  simp only [go_sem,jq,jj,jy,jv,jk,jx,j,a,qq,za4,jX,jW,jb,qJ,jE,qf]
  rw [show spl (i * 5+3) [.int .i64 (κ+1+1+1)] (spl (i * 5) [.int .i64 (κ),.int .i64 (κ+1),.bool ((κ+1+1).tmod 3 == 0)] d)=spl (i * 5) [.int .i64 (κ),.int .i64 (κ+1),.bool ((κ+1+1).tmod 3 == 0),.int .i64 (κ+1+1+1)] d from zmo (m:=[.int .i64 (κ),.int .i64 (κ+1),.bool ((κ+1+1).tmod 3 == 0)]) (by simp only [qv,qY];omega)]
  refine zie rfl ?_
  refine Evs ?_
  rw [zjz (by omega)]
  have Y:(spl (i * 5) [.int .i64 (κ),.int .i64 (κ+1),.bool ((κ+1+1).tmod 3 == 0),.int .i64 (κ+1+1+1)] d).length=d.length:=zmp (by simp only [qv,qY];omega)
  refine zlU [0,0,0,0,0,1] rfl ?_
  simp only [go_sem,jq,jj,jy,jv,jk,jx,j,a,qq,za4,jX,jW,jb,qJ,jE,qf]
  refine zl5 (by simp only [go_sem]) (by simp only [go_sem]) rfl rfl qD (.inr (t _ f)) (by simp only [qK,Y];omega) ?_
  simp only [go_sem,jq,jj,jy,jv,jk,jx,j,a,qq,za4,jX,jW,jb,qJ,jE,qf]
  rw [show spl (i * 5+4) [.int .i64 (κ+1+1+1+1)] (spl (i * 5) [.int .i64 (κ),.int .i64 (κ+1),.bool ((κ+1+1).tmod 3 == 0),.int .i64 (κ+1+1+1)] d)=spl (i * 5) [.int .i64 (κ),.int .i64 (κ+1),.bool ((κ+1+1).tmod 3 == 0),.int .i64 (κ+1+1+1),.int .i64 (κ+1+1+1+1)] d from zmo (m:=[.int .i64 (κ),.int .i64 (κ+1),.bool ((κ+1+1).tmod 3 == 0),.int .i64 (κ+1+1+1)]) (by simp only [qv,qY];omega)]
  refine zc4 rfl ?_
  refine Evs ?_
  rw [zjz (by omega)]
  refine Wk ?_
  refine ⟨(i+1,F.ins g (.cells (spl (i * 5) [.int .i64 (κ),.int .i64 (κ+1),.bool ((κ+1+1).tmod 3 == 0),.int .i64 (κ+1+1+1),.int .i64 (κ+1+1+1+1)] d).toArray e (0,0))),⟨a,?_,fun x n=>?_⟩,by simp only;omega,?_⟩
  ·rw [← zmk a,← zmm (by rw [zmi];exact a),hX]
   simp only
   rw [qD]
   congr 4
   simp only [show k+((cntL (Jq i s.l):Nat):Int)=κ from hκ,qb,qx,DPassage.cells]
   try simp only [mkB,yc,yd]
   try rfl
  ·simp only at n ⊢
   rw [← zmk a] at n
   rcases yX n with n|rfl
   ·exact y x n
   ·exact (show I64 _∧I64 _∧I64 _∧I64 _ from by unfold I64;simp only [qb];omega)
  ·refine Evs ?_
   exact ⟨zjB (by rw [N,z];omega),zjB (zjA a (by omega))⟩
 ·have G:=zjI M
  have ab:i=s.l.length:=wE hi G
  refine Wk ?_
  have hp:mkd s.l k i=(qb s k).l:=zmh G
  rw [hp] at q y
  have H:(qb s k).l.length=s.l.length:=zmb
  have J:=zmq (α:=DPassage) (h:=F) (g:=g) (cap:=s.cap) (by decide) q (by rw [H];exact r.1) r.2.2.2.2 y
  have ac:(Sl.mk (some ⟨g,0,none⟩) s.cap (qb s k).l:Sl DPassage)=qb s k:=by rw [← j];rfl
  rw [ac] at J
  refine ⟨by rw [ab,qG,D],J,fun _=>⟨⟨g,_,e,j,q,?_⟩,fun x n=>trivial⟩⟩
  rw [qK,zml,H,Z]
  rfl
theorem zAl (s:Sl DPoint) (k:Int) (h:Hp) (q:s.Ok h) (J:wX h s) (hn:(qj s).Nodup) (hk:0≤k∧k+(wd s:Nat)≤4611686018427387904):Cw jV 160 [s.val,.int .i64 k] h (fun b=>b ∈ qj s) fun v h'=>v=.int .i64 (k+(wd s:Nat))∧jD h' (qb s k)∧wX h' (qb s k):=by
 have aa:=q.max
 have z:wd s=cntL s.l:=rfl
 by_cases f:s.l=[]
 ·refine zlK (fun A W=>by simp) Tryz.func160 rfl rfl (by simp)  (fun b r=>wD J b r) fun W0 K=>?_
  refine Wk ?_
  refine zde (ι:=Unit) (fun _=>⟨[(0,true,.c (.v s.val)),(1,true,.c (.v (.int .i64 k))),(5,true,.c (.v (.int .i64 0)))],[],h,0⟩) (fun _=>True) (fun _=>0) () trivial ?_ ?_
  ·exact Evc
  rintro _ _
  refine Wk ?_
  refine zc9 rfl (fun y=>?_) (fun y=>?_)
  ·exact absurd (JE y) (by rw [f];simp)
  ·refine Wk ?_
   refine ⟨by rw [z,f];simp [cntL],⟨(by simp [qb,f,mkL]),fun t=>(t (by simp [qb,f,mkL])).elim,fun i x d=>by simp [qb,f,mkL] at d,fun x d=>by simp [qb,f,mkL] at d,q.2.2.2.2⟩,fun t=>(t (by simp [qb,f,mkL])).elim⟩
 obtain ⟨g,e,j,n,r,R⟩:=zmr (by decide) q J f
 have X:wA DPoint=2:=rfl
 have p:g ∈ qj s:=by
  rw [show qj s=_ from Sl.foot_ne f]
  simp [Sl.blkOf,n]
 refine zlK (fun A W=>by simp) Tryz.func160 rfl rfl (by simp)  (fun b r=>wD J b r) fun W0 K=>?_
 refine Wk ?_
 refine zde (ι:=Nat × Hp) (fun i=>⟨[(0,true,.c (.v s.val)),(1,true,.c (.v (.int .i64 (k+(cntL (s.l.take i.1):Nat))))),(5,true,.c (.v (.int .i64 i.1)))],[],i.2,0⟩) (fun i=>i.1≤s.l.length∧i.2 g=some (.cells (rowL (mkd s.l k i.1) j).toArray e (0,0))∧∀ x ∈ mkd s.l k i.1,jD i.2 x) (fun i=>s.l.length - i.1) (0,h) ⟨jC _,by rw [zmg];exact r,by rw [zmg];exact q.2.2.2.1⟩ ?_ ?_
 ·refine Evs ?_
  exact ⟨zjB (by rw [zl8];omega),rfl⟩
 rintro ⟨i,D⟩ ⟨hi,o,u⟩
 refine Wk ?_
 refine zc9 rfl (fun M=>?_) (fun M=>?_)
 ·have a:=zjH M
  have N:=zme a
  have ab:=zmf (l:=s.l) (i:=i+1)
  have y:wd s.l[i]=2:=rfl
  generalize hκ:k+((cntL (s.l.take i):Nat):Int)=κ
  have ac:0≤κ∧κ+2≤4611686018427387904:=by omega
  have O:i * 2+2≤(rowL (mkd s.l k i) j).length:=by rw [zml,zmi,X];omega
  generalize hX:rowL (mkd s.l k i) j=w at o O
  refine zc5 ?_
  refine Evs ?_
  refine zc3 ?_
  refine zc8 ?_
  refine zlU [0,0,0,0,0,0,1] rfl ?_
  simp only [go_sem,jq,jj,jy,jv,jk,jx,n,a,qq,za4,jX,jW,jb,qJ,jE,qf]
  refine zhF (fun _=>zAf _ _ (by omega)) ?_
  simp only [go_sem,jq,jj,jy,jv,jk,jx,n,a,qq,za4,jX,jW,jb,qJ,jE,qf]
  refine zl5 (by simp only [go_sem]) (by simp only [go_sem]) rfl rfl o (.inr (K _ p)) (by simp only [qK];omega) ?_
  simp only [go_sem,jq,jj,jy,jv,jk,jx,n,a,qq,za4,jX,jW,jb,qJ,jE,qf]
  refine zie rfl ?_
  refine Evs ?_
  rw [zjz (by omega)]
  have Q:(spl (i * 2) [.string (mkT (κ))] w).length=w.length:=zmp (by simp only [qv,qY];omega)
  refine zlU [0,0,0,0,0,0,0,1] rfl ?_
  simp only [go_sem,jq,jj,jy,jv,jk,jx,n,a,qq,za4,jX,jW,jb,qJ,jE,qf]
  refine ⟨by decide,?_⟩
  refine zl5 (by simp only [go_sem]) (by simp only [go_sem]) rfl rfl qD (.inr (K _ p)) (by simp only [qK,Q];omega) ?_
  simp only [go_sem,jq,jj,jy,jv,jk,jx,n,a,qq,za4,jX,jW,jb,qJ,jE,qf]
  rw [show spl (i * 2+1) [.bool ((κ+1).tmod 3 == 0)] (spl (i * 2) [.string (mkT (κ))] w)=spl (i * 2) [.string (mkT (κ)),.bool ((κ+1).tmod 3 == 0)] w from zmo (m:=[.string (mkT (κ))]) (by simp only [qv,qY];omega)]
  refine zc4 rfl ?_
  refine Evs ?_
  rw [zjz (by omega)]
  refine Wk ?_
  refine ⟨(i+1,D.ins g (.cells (spl (i * 2) [.string (mkT (κ)),.bool ((κ+1).tmod 3 == 0)] w).toArray e (0,0))),⟨a,?_,fun x d=>?_⟩,by simp only;omega,?_⟩
  ·rw [← zmk a,← zmm (by rw [zmi];exact a),hX]
   simp only
   rw [qD]
   congr 4
   simp only [show k+((cntL (Jq i s.l):Nat):Int)=κ from hκ,qb,qx,DPoint.cells]
   try simp only [mkB,yc,yd]
   try rfl
  ·simp only at d ⊢
   rw [← zmk a] at d
   rcases yX d with d|rfl
   ·exact u x d
   ·exact (show zkA _ from wK (zAe _) (by decide))
  ·refine Evs ?_
   exact ⟨zjB (by rw [N,y];omega),zjB (zjA a (by omega))⟩
 ·have F:=zjI M
  have Y:i=s.l.length:=wE hi F
  refine Wk ?_
  have hp:mkd s.l k i=(qb s k).l:=zmh F
  rw [hp] at o u
  have G:(qb s k).l.length=s.l.length:=zmb
  have H:=zmq (α:=DPoint) (h:=D) (g:=g) (cap:=s.cap) (by decide) o (by rw [G];exact q.1) q.2.2.2.2 u
  have Z:(Sl.mk (some ⟨g,0,none⟩) s.cap (qb s k).l:Sl DPoint)=qb s k:=by rw [← n];rfl
  rw [Z] at H
  refine ⟨by rw [Y,qG,z],H,fun _=>⟨⟨g,_,e,n,o,?_⟩,fun x d=>trivial⟩⟩
  rw [qK,zml,G,R]
  rfl
theorem zAm (s:Sl DSegment) (k:Int) (h:Hp) (r:s.Ok h) (K:wX h s) (hn:(qj s).Nodup) (hk:0≤k∧k+(wd s:Nat)≤4611686018427387904):Cw jV 161 [s.val,.int .i64 k] h (fun b=>b ∈ qj s) fun v h'=>v=.int .i64 (k+(wd s:Nat))∧jD h' (qb s k)∧wX h' (qb s k):=by
 have ae:=r.max
 have D:wd s=cntL s.l:=rfl
 by_cases o:s.l=[]
 ·refine zlK (fun A W=>by simp) Tryz.func161 rfl rfl (by simp)  (fun b u=>wD K b u) fun W0 t=>?_
  refine Wk ?_
  refine zde (ι:=Unit) (fun _=>⟨[(0,true,.c (.v s.val)),(1,true,.c (.v (.int .i64 k))),(5,true,.c (.v (.int .i64 0)))],[],h,0⟩) (fun _=>True) (fun _=>0) () trivial ?_ ?_
  ·exact Evc
  rintro _ _
  refine Wk ?_
  refine zc9 rfl (fun z=>?_) (fun z=>?_)
  ·exact absurd (JE z) (by rw [o];simp)
  ·refine Wk ?_
   refine ⟨by rw [D,o];simp [cntL],⟨(by simp [qb,o,mkL]),fun w=>(w (by simp [qb,o,mkL])).elim,fun i x n=>by simp [qb,o,mkL] at n,fun x n=>by simp [qb,o,mkL] at n,r.2.2.2.2⟩,fun w=>(w (by simp [qb,o,mkL])).elim⟩
 obtain ⟨g,e,p,j,u,Z⟩:=zmr (by decide) r K o
 have aa:wA DSegment=5:=rfl
 have f:g ∈ qj s:=by
  rw [show qj s=_ from Sl.foot_ne o]
  simp [Sl.blkOf,j]
 refine zlK (fun A W=>by simp) Tryz.func161 rfl rfl (by simp)  (fun b u=>wD K b u) fun W0 t=>?_
 refine Wk ?_
 refine zde (ι:=Nat × Hp) (fun i=>⟨[(0,true,.c (.v s.val)),(1,true,.c (.v (.int .i64 (k+(cntL (s.l.take i.1):Nat))))),(5,true,.c (.v (.int .i64 i.1)))],[],i.2,0⟩) (fun i=>i.1≤s.l.length∧i.2 g=some (.cells (rowL (mkd s.l k i.1) p).toArray e (0,0))∧∀ x ∈ mkd s.l k i.1,jD i.2 x) (fun i=>s.l.length - i.1) (0,h) ⟨jC _,by rw [zmg];exact u,by rw [zmg];exact r.2.2.2.1⟩ ?_ ?_
 ·refine Evs ?_
  exact ⟨zjB (by rw [zl8];omega),rfl⟩
 rintro ⟨i,F⟩ ⟨hi,q,y⟩
 refine Wk ?_
 refine zc9 rfl (fun M=>?_) (fun M=>?_)
 ·have a:=zjH M
  have N:=zme a
  have ag:=zmf (l:=s.l) (i:=i+1)
  have z:wd s.l[i]=5:=rfl
  generalize hκ:k+((cntL (s.l.take i):Nat):Int)=κ
  have ah:0≤κ∧κ+5≤4611686018427387904:=by omega
  have O:i * 5+5≤(rowL (mkd s.l k i) p).length:=by rw [zml,zmi,aa];omega
  generalize hX:rowL (mkd s.l k i) p=d at q O
  refine zc5 ?_
  refine Evs ?_
  refine zc3 ?_
  refine zc8 ?_
  refine zlU [0,0,0,0,0,1] rfl ?_
  simp only [go_sem,jq,jj,jy,jv,jk,jx,j,a,qq,za4,jX,jW,jb,qJ,jE,qf]
  refine zl5 (by simp only [go_sem]) (by simp only [go_sem]) rfl rfl q (.inr (t _ f)) (by simp only [qK];omega) ?_
  simp only [go_sem,jq,jj,jy,jv,jk,jx,j,a,qq,za4,jX,jW,jb,qJ,jE,qf]
  refine zie rfl ?_
  refine Evs ?_
  rw [zjz (by omega)]
  have Q:(spl (i * 5) [.int .i64 (κ)] d).length=d.length:=zmp (by simp only [qv,qY];omega)
  refine zlU [0,0,0,0,0,1] rfl ?_
  simp only [go_sem,jq,jj,jy,jv,jk,jx,j,a,qq,za4,jX,jW,jb,qJ,jE,qf]
  refine zl5 (by simp only [go_sem]) (by simp only [go_sem]) rfl rfl qD (.inr (t _ f)) (by simp only [qK,Q];omega) ?_
  simp only [go_sem,jq,jj,jy,jv,jk,jx,j,a,qq,za4,jX,jW,jb,qJ,jE,qf]
  rw [show spl (i * 5+1) [.int .i64 (κ+1)] (spl (i * 5) [.int .i64 (κ)] d)=spl (i * 5) [.int .i64 (κ),.int .i64 (κ+1)] d from zmo (m:=[.int .i64 (κ)]) (by simp only [qv,qY];omega)]
  refine zie rfl ?_
  refine Evs ?_
  rw [zjz (by omega)]
  have R:(spl (i * 5) [.int .i64 (κ),.int .i64 (κ+1)] d).length=d.length:=zmp (by simp only [qv,qY];omega)
  refine zlU [0,0,0,0,0,1] rfl ?_
  simp only [go_sem,jq,jj,jy,jv,jk,jx,j,a,qq,za4,jX,jW,jb,qJ,jE,qf]
  refine zl5 (by simp only [go_sem]) (by simp only [go_sem]) rfl rfl qD (.inr (t _ f)) (by simp only [qK,R];omega) ?_
  simp only [go_sem,jq,jj,jy,jv,jk,jx,j,a,qq,za4,jX,jW,jb,qJ,jE,qf]
  rw [show spl (i * 5+2) [.int .i64 (κ+1+1)] (spl (i * 5) [.int .i64 (κ),.int .i64 (κ+1)] d)=spl (i * 5) [.int .i64 (κ),.int .i64 (κ+1),.int .i64 (κ+1+1)] d from zmo (m:=[.int .i64 (κ),.int .i64 (κ+1)]) (by simp only [qv,qY];omega)]
  refine zie rfl ?_
  refine Evs ?_
  rw [zjz (by omega)]
  have X:(spl (i * 5) [.int .i64 (κ),.int .i64 (κ+1),.int .i64 (κ+1+1)] d).length=d.length:=zmp (by simp only [qv,qY];omega)
  refine zlU [0,0,0,0,0,1] rfl ?_
  simp only [go_sem,jq,jj,jy,jv,jk,jx,j,a,qq,za4,jX,jW,jb,qJ,jE,qf]
  refine zl5 (by simp only [go_sem]) (by simp only [go_sem]) rfl rfl qD (.inr (t _ f)) (by simp only [qK,X];omega) ?_
  simp only [go_sem,jq,jj,jy,jv,jk,jx,j,a,qq,za4,jX,jW,jb,qJ,jE,qf]
  rw [show spl (i * 5+3) [.int .i64 (κ+1+1+1)] (spl (i * 5) [.int .i64 (κ),.int .i64 (κ+1),.int .i64 (κ+1+1)] d)=spl (i * 5) [.int .i64 (κ),.int .i64 (κ+1),.int .i64 (κ+1+1),.int .i64 (κ+1+1+1)] d from zmo (m:=[.int .i64 (κ),.int .i64 (κ+1),.int .i64 (κ+1+1)]) (by simp only [qv,qY];omega)]
  refine zie rfl ?_
  refine Evs ?_
  rw [zjz (by omega)]
  have Y:(spl (i * 5) [.int .i64 (κ),.int .i64 (κ+1),.int .i64 (κ+1+1),.int .i64 (κ+1+1+1)] d).length=d.length:=zmp (by simp only [qv,qY];omega)
  refine zlU [0,0,0,0,0,0,0,1] rfl ?_
  simp only [go_sem,jq,jj,jy,jv,jk,jx,j,a,qq,za4,jX,jW,jb,qJ,jE,qf]
  refine ⟨by decide,?_⟩
  refine zl5 (by simp only [go_sem]) (by simp only [go_sem]) rfl rfl qD (.inr (t _ f)) (by simp only [qK,Y];omega) ?_
  simp only [go_sem,jq,jj,jy,jv,jk,jx,j,a,qq,za4,jX,jW,jb,qJ,jE,qf]
  rw [show spl (i * 5+4) [.bool ((κ+1+1+1+1).tmod 3 == 0)] (spl (i * 5) [.int .i64 (κ),.int .i64 (κ+1),.int .i64 (κ+1+1),.int .i64 (κ+1+1+1)] d)=spl (i * 5) [.int .i64 (κ),.int .i64 (κ+1),.int .i64 (κ+1+1),.int .i64 (κ+1+1+1),.bool ((κ+1+1+1+1).tmod 3 == 0)] d from zmo (m:=[.int .i64 (κ),.int .i64 (κ+1),.int .i64 (κ+1+1),.int .i64 (κ+1+1+1)]) (by simp only [qv,qY];omega)]
  refine zc4 rfl ?_
  refine Evs ?_
  rw [zjz (by omega)]
  refine Wk ?_
  refine ⟨(i+1,F.ins g (.cells (spl (i * 5) [.int .i64 (κ),.int .i64 (κ+1),.int .i64 (κ+1+1),.int .i64 (κ+1+1+1),.bool ((κ+1+1+1+1).tmod 3 == 0)] d).toArray e (0,0))),⟨a,?_,fun x n=>?_⟩,by simp only;omega,?_⟩
  ·rw [← zmk a,← zmm (by rw [zmi];exact a),hX]
   simp only
   rw [qD]
   congr 4
   simp only [show k+((cntL (Jq i s.l):Nat):Int)=κ from hκ,qb,qx,DSegment.cells]
   try simp only [mkB,yc,yd]
   try rfl
  ·simp only at n ⊢
   rw [← zmk a] at n
   rcases yX n with n|rfl
   ·exact y x n
   ·exact (show I64 _∧I64 _∧I64 _∧I64 _ from by unfold I64;simp only [qb];omega)
  ·refine Evs ?_
   exact ⟨zjB (by rw [N,z];omega),zjB (zjA a (by omega))⟩
 ·have G:=zjI M
  have ab:i=s.l.length:=wE hi G
  refine Wk ?_
  have hp:mkd s.l k i=(qb s k).l:=zmh G
  rw [hp] at q y
  have H:(qb s k).l.length=s.l.length:=zmb
  have J:=zmq (α:=DSegment) (h:=F) (g:=g) (cap:=s.cap) (by decide) q (by rw [H];exact r.1) r.2.2.2.2 y
  have ac:(Sl.mk (some ⟨g,0,none⟩) s.cap (qb s k).l:Sl DSegment)=qb s k:=by rw [← j];rfl
  rw [ac] at J
  refine ⟨by rw [ab,qG,D],J,fun _=>⟨⟨g,_,e,j,q,?_⟩,fun x n=>trivial⟩⟩
  rw [qK,zml,H,Z]
  rfl
theorem zAn (s:Sl DShip) (k:Int) (h:Hp) (t:s.Ok h) (K:wX h s) (hn:(qj s).Nodup) (hk:0≤k∧k+(wd s:Nat)≤4611686018427387904):Cw jV 85 [s.val,.int .i64 k] h (fun b=>b ∈ qj s) fun v h'=>v=.int .i64 (k+(wd s:Nat))∧jD h' (qb s k)∧wX h' (qb s k):=by
 have ag:=t.max
 have D:wd s=cntL s.l:=rfl
 by_cases o:s.l=[]
 ·refine zlK (fun A W=>by simp) Tryz.func85 rfl rfl (by simp)  (fun b u=>wD K b u) fun W0 r=>?_
  refine Wk ?_
  refine zde (ι:=Unit) (fun _=>⟨[(0,true,.c (.v s.val)),(1,true,.c (.v (.int .i64 k))),(5,true,.c (.v (.int .i64 0)))],[],h,0⟩) (fun _=>True) (fun _=>0) () trivial ?_ ?_
  ·exact Evc
  rintro _ _
  refine Wk ?_
  refine zc9 rfl (fun z=>?_) (fun z=>?_)
  ·exact absurd (JE z) (by rw [o];simp)
  ·refine Wk ?_
   refine ⟨by rw [D,o];simp [cntL],⟨(by simp [qb,o,mkL]),fun w=>(w (by simp [qb,o,mkL])).elim,fun i x n=>by simp [qb,o,mkL] at n,fun x n=>by simp [qb,o,mkL] at n,t.2.2.2.2⟩,fun w=>(w (by simp [qb,o,mkL])).elim⟩
 obtain ⟨g,e,p,j,u,aa⟩:=zmr (by decide) t K o
 have ab:wA DShip=6:=rfl
 have f:g ∈ qj s:=by
  rw [show qj s=_ from Sl.foot_ne o]
  simp [Sl.blkOf,j]
 refine zlK (fun A W=>by simp) Tryz.func85 rfl rfl (by simp)  (fun b u=>wD K b u) fun W0 r=>?_
 refine Wk ?_
 refine zde (ι:=Nat × Hp) (fun i=>⟨[(0,true,.c (.v s.val)),(1,true,.c (.v (.int .i64 (k+(cntL (s.l.take i.1):Nat))))),(5,true,.c (.v (.int .i64 i.1)))],[],i.2,0⟩) (fun i=>i.1≤s.l.length∧i.2 g=some (.cells (rowL (mkd s.l k i.1) p).toArray e (0,0))∧∀ x ∈ mkd s.l k i.1,jD i.2 x) (fun i=>s.l.length - i.1) (0,h) ⟨jC _,by rw [zmg];exact u,by rw [zmg];exact t.2.2.2.1⟩ ?_ ?_
 ·refine Evs ?_
  exact ⟨zjB (by rw [zl8];omega),rfl⟩
 rintro ⟨i,F⟩ ⟨hi,q,y⟩
 refine Wk ?_
 refine zc9 rfl (fun M=>?_) (fun M=>?_)
 ·have a:=zjH M
  have N:=zme a
  have ah:=zmf (l:=s.l) (i:=i+1)
  have z:wd s.l[i]=6:=rfl
  generalize hκ:k+((cntL (s.l.take i):Nat):Int)=κ
  have ai:0≤κ∧κ+6≤4611686018427387904:=by omega
  have O:i * 6+6≤(rowL (mkd s.l k i) p).length:=by rw [zml,zmi,ab];omega
  generalize hX:rowL (mkd s.l k i) p=d at q O
  refine zc5 ?_
  refine Evs ?_
  refine zc3 ?_
  refine zc8 ?_
  refine zlU [0,0,0,0,0,0,1] rfl ?_
  simp only [go_sem,jq,jj,jy,jv,jk,jx,j,a,qq,za4,jX,jW,jb,qJ,jE,qf]
  refine zhF (fun _=>zAf _ _ (by omega)) ?_
  simp only [go_sem,jq,jj,jy,jv,jk,jx,j,a,qq,za4,jX,jW,jb,qJ,jE,qf]
  refine zl5 (by simp only [go_sem]) (by simp only [go_sem]) rfl rfl q (.inr (r _ f)) (by simp only [qK];omega) ?_
  simp only [go_sem,jq,jj,jy,jv,jk,jx,j,a,qq,za4,jX,jW,jb,qJ,jE,qf]
  refine zie rfl ?_
  refine Evs ?_
  rw [zjz (by omega)]
  have Q:(spl (i * 6) [.string (mkT (κ))] d).length=d.length:=zmp (by simp only [qv,qY];omega)
  refine zlU [0,0,0,0,0,1] rfl ?_
  simp only [go_sem,jq,jj,jy,jv,jk,jx,j,a,qq,za4,jX,jW,jb,qJ,jE,qf]
  refine zl5 (by simp only [go_sem]) (by simp only [go_sem]) rfl rfl qD (.inr (r _ f)) (by simp only [qK,Q];omega) ?_
  simp only [go_sem,jq,jj,jy,jv,jk,jx,j,a,qq,za4,jX,jW,jb,qJ,jE,qf]
  rw [show spl (i * 6+1) [.int .i64 (κ+1)] (spl (i * 6) [.string (mkT (κ))] d)=spl (i * 6) [.string (mkT (κ)),.int .i64 (κ+1)] d from zmo (m:=[.string (mkT (κ))]) (by simp only [qv,qY];omega)]
  refine zie rfl ?_
  refine Evs ?_
  rw [zjz (by omega)]
  have R:(spl (i * 6) [.string (mkT (κ)),.int .i64 (κ+1)] d).length=d.length:=zmp (by simp only [qv,qY];omega)
  refine zlU [0,0,0,0,0,1] rfl ?_
  simp only [go_sem,jq,jj,jy,jv,jk,jx,j,a,qq,za4,jX,jW,jb,qJ,jE,qf]
  refine zl5 (by simp only [go_sem]) (by simp only [go_sem]) rfl rfl qD (.inr (r _ f)) (by simp only [qK,R];omega) ?_
  simp only [go_sem,jq,jj,jy,jv,jk,jx,j,a,qq,za4,jX,jW,jb,qJ,jE,qf]
  rw [show spl (i * 6+2) [.int .i64 (κ+1+1)] (spl (i * 6) [.string (mkT (κ)),.int .i64 (κ+1)] d)=spl (i * 6) [.string (mkT (κ)),.int .i64 (κ+1),.int .i64 (κ+1+1)] d from zmo (m:=[.string (mkT (κ)),.int .i64 (κ+1)]) (by simp only [qv,qY];omega)]
  refine zie rfl ?_
  refine Evs ?_
  rw [zjz (by omega)]
  have X:(spl (i * 6) [.string (mkT (κ)),.int .i64 (κ+1),.int .i64 (κ+1+1)] d).length=d.length:=zmp (by simp only [qv,qY];omega)
  refine zlU [0,0,0,0,0,1] rfl ?_
  simp only [go_sem,jq,jj,jy,jv,jk,jx,j,a,qq,za4,jX,jW,jb,qJ,jE,qf]
  refine zl5 (by simp only [go_sem]) (by simp only [go_sem]) rfl rfl qD (.inr (r _ f)) (by simp only [qK,X];omega) ?_
  simp only [go_sem,jq,jj,jy,jv,jk,jx,j,a,qq,za4,jX,jW,jb,qJ,jE,qf]
  rw [show spl (i * 6+3) [.int .i64 (κ+1+1+1)] (spl (i * 6) [.string (mkT (κ)),.int .i64 (κ+1),.int .i64 (κ+1+1)] d)=spl (i * 6) [.string (mkT (κ)),.int .i64 (κ+1),.int .i64 (κ+1+1),.int .i64 (κ+1+1+1)] d from zmo (m:=[.string (mkT (κ)),.int .i64 (κ+1),.int .i64 (κ+1+1)]) (by simp only [qv,qY];omega)]
  refine zie rfl ?_
  refine Evs ?_
  rw [zjz (by omega)]
  have Y:(spl (i * 6) [.string (mkT (κ)),.int .i64 (κ+1),.int .i64 (κ+1+1),.int .i64 (κ+1+1+1)] d).length=d.length:=zmp (by simp only [qv,qY];omega)
  refine zlU [0,0,0,0,0,1] rfl ?_
  simp only [go_sem,jq,jj,jy,jv,jk,jx,j,a,qq,za4,jX,jW,jb,qJ,jE,qf]
  refine zl5 (by simp only [go_sem]) (by simp only [go_sem]) rfl rfl qD (.inr (r _ f)) (by simp only [qK,Y];omega) ?_
  simp only [go_sem,jq,jj,jy,jv,jk,jx,j,a,qq,za4,jX,jW,jb,qJ,jE,qf]
  rw [show spl (i * 6+4) [.int .i64 (κ+1+1+1+1)] (spl (i * 6) [.string (mkT (κ)),.int .i64 (κ+1),.int .i64 (κ+1+1),.int .i64 (κ+1+1+1)] d)=spl (i * 6) [.string (mkT (κ)),.int .i64 (κ+1),.int .i64 (κ+1+1),.int .i64 (κ+1+1+1),.int .i64 (κ+1+1+1+1)] d from zmo (m:=[.string (mkT (κ)),.int .i64 (κ+1),.int .i64 (κ+1+1),.int .i64 (κ+1+1+1)]) (by simp only [qv,qY];omega)]
  refine zie rfl ?_
  refine Evs ?_
  rw [zjz (by omega)]
  have Z:(spl (i * 6) [.string (mkT (κ)),.int .i64 (κ+1),.int .i64 (κ+1+1),.int .i64 (κ+1+1+1),.int .i64 (κ+1+1+1+1)] d).length=d.length:=zmp (by simp only [qv,qY];omega)
  refine zlU [0,0,0,0,0,0,0,1] rfl ?_
  simp only [go_sem,jq,jj,jy,jv,jk,jx,j,a,qq,za4,jX,jW,jb,qJ,jE,qf]
  refine ⟨by decide,?_⟩
  refine zl5 (by simp only [go_sem]) (by simp only [go_sem]) rfl rfl qD (.inr (r _ f)) (by simp only [qK,Z];omega) ?_
  simp only [go_sem,jq,jj,jy,jv,jk,jx,j,a,qq,za4,jX,jW,jb,qJ,jE,qf]
  rw [show spl (i * 6+5) [.bool ((κ+1+1+1+1+1).tmod 3 == 0)] (spl (i * 6) [.string (mkT (κ)),.int .i64 (κ+1),.int .i64 (κ+1+1),.int .i64 (κ+1+1+1),.int .i64 (κ+1+1+1+1)] d)=spl (i * 6) [.string (mkT (κ)),.int .i64 (κ+1),.int .i64 (κ+1+1),.int .i64 (κ+1+1+1),.int .i64 (κ+1+1+1+1),.bool ((κ+1+1+1+1+1).tmod 3 == 0)] d from zmo (m:=[.string (mkT (κ)),.int .i64 (κ+1),.int .i64 (κ+1+1),.int .i64 (κ+1+1+1),.int .i64 (κ+1+1+1+1)]) (by simp only [qv,qY];omega)]
  refine zc4 rfl ?_
  refine Evs ?_
  rw [zjz (by omega)]
  refine Wk ?_
  refine ⟨(i+1,F.ins g (.cells (spl (i * 6) [.string (mkT (κ)),.int .i64 (κ+1),.int .i64 (κ+1+1),.int .i64 (κ+1+1+1),.int .i64 (κ+1+1+1+1),.bool ((κ+1+1+1+1+1).tmod 3 == 0)] d).toArray e (0,0))),⟨a,?_,fun x n=>?_⟩,by simp only;omega,?_⟩
  ·rw [← zmk a,← zmm (by rw [zmi];exact a),hX]
   simp only
   rw [qD]
   congr 4
   simp only [show k+((cntL (Jq i s.l):Nat):Int)=κ from hκ,qb,qx,DShip.cells]
   try simp only [mkB,yc,yd]
   try rfl
  ·simp only at n ⊢
   rw [← zmk a] at n
   rcases yX n with n|rfl
   ·exact y x n
   ·exact (show zkA _∧I64 _∧I64 _∧I64 _∧I64 _ from ⟨wK (zAe _) (by decide),(by unfold I64;simp only [qb];omega),(by unfold I64;simp only [qb];omega),(by unfold I64;simp only [qb];omega),(by unfold I64;simp only [qb];omega)⟩)
  ·refine Evs ?_
   exact ⟨zjB (by rw [N,z];omega),zjB (zjA a (by omega))⟩
 ·have G:=zjI M
  have ac:i=s.l.length:=wE hi G
  refine Wk ?_
  have hp:mkd s.l k i=(qb s k).l:=zmh G
  rw [hp] at q y
  have H:(qb s k).l.length=s.l.length:=zmb
  have J:=zmq (α:=DShip) (h:=F) (g:=g) (cap:=s.cap) (by decide) q (by rw [H];exact t.1) t.2.2.2.2 y
  have ae:(Sl.mk (some ⟨g,0,none⟩) s.cap (qb s k).l:Sl DShip)=qb s k:=by rw [← j];rfl
  rw [ae] at J
  refine ⟨by rw [ac,qG,D],J,fun _=>⟨⟨g,_,e,j,q,?_⟩,fun x n=>trivial⟩⟩
  rw [qK,zml,H,aa]
  rfl
theorem zAo (s:Sl DSurge) (k:Int) (h:Hp) (r:s.Ok h) (K:wX h s) (hn:(qj s).Nodup) (hk:0≤k∧k+(wd s:Nat)≤4611686018427387904):Cw jV 159 [s.val,.int .i64 k] h (fun b=>b ∈ qj s) fun v h'=>v=.int .i64 (k+(wd s:Nat))∧jD h' (qb s k)∧wX h' (qb s k):=by
 have ab:=r.max
 have D:wd s=cntL s.l:=rfl
 by_cases f:s.l=[]
 ·refine zlK (fun A W=>by simp) Tryz.func159 rfl rfl (by simp)  (fun b t=>wD K b t) fun W0 y=>?_
  refine Wk ?_
  refine zde (ι:=Unit) (fun _=>⟨[(0,true,.c (.v s.val)),(1,true,.c (.v (.int .i64 k))),(5,true,.c (.v (.int .i64 0)))],[],h,0⟩) (fun _=>True) (fun _=>0) () trivial ?_ ?_
  ·exact Evc
  rintro _ _
  refine Wk ?_
  refine zc9 rfl (fun z=>?_) (fun z=>?_)
  ·exact absurd (JE z) (by rw [f];simp)
  ·refine Wk ?_
   refine ⟨by rw [D,f];simp [cntL],⟨(by simp [qb,f,mkL]),fun u=>(u (by simp [qb,f,mkL])).elim,fun i x d=>by simp [qb,f,mkL] at d,fun x d=>by simp [qb,f,mkL] at d,r.2.2.2.2⟩,fun u=>(u (by simp [qb,f,mkL])).elim⟩
 obtain ⟨g,e,j,n,t,X⟩:=zmr (by decide) r K f
 have Y:wA DSurge=3:=rfl
 have o:g ∈ qj s:=by
  rw [show qj s=_ from Sl.foot_ne f]
  simp [Sl.blkOf,n]
 refine zlK (fun A W=>by simp) Tryz.func159 rfl rfl (by simp)  (fun b t=>wD K b t) fun W0 y=>?_
 refine Wk ?_
 refine zde (ι:=Nat × Hp) (fun i=>⟨[(0,true,.c (.v s.val)),(1,true,.c (.v (.int .i64 (k+(cntL (s.l.take i.1):Nat))))),(5,true,.c (.v (.int .i64 i.1)))],[],i.2,0⟩) (fun i=>i.1≤s.l.length∧i.2 g=some (.cells (rowL (mkd s.l k i.1) j).toArray e (0,0))∧∀ x ∈ mkd s.l k i.1,jD i.2 x) (fun i=>s.l.length - i.1) (0,h) ⟨jC _,by rw [zmg];exact t,by rw [zmg];exact r.2.2.2.1⟩ ?_ ?_
 ·refine Evs ?_
  exact ⟨zjB (by rw [zl8];omega),rfl⟩
 rintro ⟨i,F⟩ ⟨hi,q,w⟩
 refine Wk ?_
 refine zc9 rfl (fun M=>?_) (fun M=>?_)
 ·have a:=zjH M
  have N:=zme a
  have ac:=zmf (l:=s.l) (i:=i+1)
  have z:wd s.l[i]=3:=rfl
  generalize hκ:k+((cntL (s.l.take i):Nat):Int)=κ
  have ae:0≤κ∧κ+3≤4611686018427387904:=by omega
  have O:i * 3+3≤(rowL (mkd s.l k i) j).length:=by rw [zml,zmi,Y];omega
  generalize hX:rowL (mkd s.l k i) j=p at q O
  refine zc5 ?_
  refine Evs ?_
  refine zc3 ?_
  refine zc8 ?_
  refine zlU [0,0,0,0,0,1] rfl ?_
  simp only [go_sem,jq,jj,jy,jv,jk,jx,n,a,qq,za4,jX,jW,jb,qJ,jE,qf]
  refine zl5 (by simp only [go_sem]) (by simp only [go_sem]) rfl rfl q (.inr (y _ o)) (by simp only [qK];omega) ?_
  simp only [go_sem,jq,jj,jy,jv,jk,jx,n,a,qq,za4,jX,jW,jb,qJ,jE,qf]
  refine zie rfl ?_
  refine Evs ?_
  rw [zjz (by omega)]
  have Q:(spl (i * 3) [.int .i64 (κ)] p).length=p.length:=zmp (by simp only [qv,qY];omega)
  refine zlU [0,0,0,0,0,1] rfl ?_
  simp only [go_sem,jq,jj,jy,jv,jk,jx,n,a,qq,za4,jX,jW,jb,qJ,jE,qf]
  refine zl5 (by simp only [go_sem]) (by simp only [go_sem]) rfl rfl qD (.inr (y _ o)) (by simp only [qK,Q];omega) ?_
  simp only [go_sem,jq,jj,jy,jv,jk,jx,n,a,qq,za4,jX,jW,jb,qJ,jE,qf]
  rw [show spl (i * 3+1) [.int .i64 (κ+1)] (spl (i * 3) [.int .i64 (κ)] p)=spl (i * 3) [.int .i64 (κ),.int .i64 (κ+1)] p from zmo (m:=[.int .i64 (κ)]) (by simp only [qv,qY];omega)]
  refine zie rfl ?_
  refine Evs ?_
  rw [zjz (by omega)]
  have R:(spl (i * 3) [.int .i64 (κ),.int .i64 (κ+1)] p).length=p.length:=zmp (by simp only [qv,qY];omega)
  refine zlU [0,0,0,0,0,1] rfl ?_
  simp only [go_sem,jq,jj,jy,jv,jk,jx,n,a,qq,za4,jX,jW,jb,qJ,jE,qf]
  refine zl5 (by simp only [go_sem]) (by simp only [go_sem]) rfl rfl qD (.inr (y _ o)) (by simp only [qK,R];omega) ?_
  simp only [go_sem,jq,jj,jy,jv,jk,jx,n,a,qq,za4,jX,jW,jb,qJ,jE,qf]
  rw [show spl (i * 3+2) [.int .i64 (κ+1+1)] (spl (i * 3) [.int .i64 (κ),.int .i64 (κ+1)] p)=spl (i * 3) [.int .i64 (κ),.int .i64 (κ+1),.int .i64 (κ+1+1)] p from zmo (m:=[.int .i64 (κ),.int .i64 (κ+1)]) (by simp only [qv,qY];omega)]
  refine zc4 rfl ?_
  refine Evs ?_
  rw [zjz (by omega)]
  refine Wk ?_
  refine ⟨(i+1,F.ins g (.cells (spl (i * 3) [.int .i64 (κ),.int .i64 (κ+1),.int .i64 (κ+1+1)] p).toArray e (0,0))),⟨a,?_,fun x d=>?_⟩,by simp only;omega,?_⟩
  ·rw [← zmk a,← zmm (by rw [zmi];exact a),hX]
   simp only
   rw [qD]
   congr 4
   simp only [show k+((cntL (Jq i s.l):Nat):Int)=κ from hκ,qb,qx,DSurge.cells]
   try simp only [mkB,yc,yd]
   try rfl
  ·simp only at d ⊢
   rw [← zmk a] at d
   rcases yX d with d|rfl
   ·exact w x d
   ·exact (show I64 _∧I64 _∧I64 _ from by unfold I64;simp only [qb];omega)
  ·refine Evs ?_
   exact ⟨zjB (by rw [N,z];omega),zjB (zjA a (by omega))⟩
 ·have G:=zjI M
  have Z:i=s.l.length:=wE hi G
  refine Wk ?_
  have hp:mkd s.l k i=(qb s k).l:=zmh G
  rw [hp] at q w
  have H:(qb s k).l.length=s.l.length:=zmb
  have J:=zmq (α:=DSurge) (h:=F) (g:=g) (cap:=s.cap) (by decide) q (by rw [H];exact r.1) r.2.2.2.2 w
  have aa:(Sl.mk (some ⟨g,0,none⟩) s.cap (qb s k).l:Sl DSurge)=qb s k:=by rw [← n];rfl
  rw [aa] at J
  refine ⟨by rw [Z,qG,D],J,fun _=>⟨⟨g,_,e,n,q,?_⟩,fun x d=>trivial⟩⟩
  rw [qK,zml,H,X]
  rfl
theorem zAp (c:DChart) (k:Int) (h:Hp) (w:jD h c) (j:wX h c) (g:(qj c).Nodup) (Q:0≤k∧k+(zmL c:Nat)≤4611686018427387904):Cw jV 84 [c.v,.int .i64 k] h (fun b=>b ∈ qj c) fun v h'=>v=.int .i64 (k+(zmL c:Nat))∧jD h' (zmK c k)∧wX h' (zmK c k):=by
 have t:=fun b a=>wD (x:=c) j b a
 have y:zmL c=wd c.points+wd c.segments:=rfl
 have s:qj c=qj c.points ++ qj c.segments:=rfl
 rw [s] at g
 rw [zmA] at j
 have i:∀ b,b ∈ qj c ↔ b ∈ qj c.points∨b ∈ qj c.segments:=fun b=>by rw [s];simp only [ye,or_assoc]
 simp only [yE,ye] at g
 have l:jD h c.points:=w.1
 have d:wX h c.points:=j.1
 have z:(qj c.points).Nodup:=g.1
 have m:jD h c.segments:=w.2
 have n:wX h c.segments:=j.2
 have D:(qj c.segments).Nodup:=g.2.1
 have e:∀ b ∈ qj c.segments,¬ (b ∈ qj c.points):=fun b u O=>g.2.2 b O b u rfl
 refine zlK (fun A W=>by simp) Tryz.func84 rfl rfl (by simp)  t fun W0 F=>?_
 refine zie rfl ?_
 refine Evs ?_
 refine zlU [0,0,0,1] rfl ?_
 refine Evs ?_
 refine zlL (x:=⟨jV,W0,h,_⟩) (zAl c.points (k) _ l d z (by omega)) rfl (fun b a=>⟨wD (x:=c.points) d b a,.inr (F b ((i b).2 (Or.inl a)))⟩) ?_
 rintro v h0 G ⟨rfl,H,J⟩
 obtain ⟨o,f⟩:=ok_keep (x:=c.segments) m n e G
 refine Evs ?_
 refine zlU [0,0,0,1] rfl ?_
 refine Evs ?_
 refine zlL (x:=⟨jV,W0,h,_⟩) (zAm c.segments (k+(wd c.points:Nat)) _ o f D (by omega)) rfl (fun b a=>⟨wD (x:=c.segments) f b a,.inr (F b ((i b).2 (Or.inr a)))⟩) ?_
 rintro v R K ⟨rfl,M,N⟩
 have p:=ok_keep H J (fun b a u=>e b u (by rw [MkOk.foot] at a;exact a)) K
 obtain ⟨q,r⟩:=p
 refine Evs ?_
 repeat' first|refine Wa ?_|(simp only [go_sem,jq,jj,jy,jv,jk,jx];try rfl)|refine zc3 ?_
 exact ⟨by rw [y];congr 1;omega,⟨q,M⟩,⟨r,N⟩⟩
theorem zAq (c:DTide) (k:Int) (h:Hp) (l:jD h c) (g:wX h c) (m:(qj c).Nodup) (t:0≤k∧k+(zmH c:Nat)≤4611686018427387904):Cw jV 158 [c.v,.int .i64 k] h (fun b=>b ∈ qj c) fun v h'=>v=.int .i64 (k+(zmH c:Nat))∧jD h' (zmG c k)∧wX h' (zmG c k):=by
 have i:=fun b d=>wD (x:=c) g b d
 have n:zmH c=wd c.parts:=rfl
 have f:qj c=qj c.parts:=rfl
 rw [f] at m
 rw [zmw] at g
 have j:∀ b,b ∈ qj c ↔ b ∈ qj c.parts:=fun b=>by rw [f]
 have e:jD h c.parts:=l.2
 have a:wX h c.parts:=g
 have o:(qj c.parts).Nodup:=m
 refine zlK (fun A W=>by simp) Tryz.func158 rfl rfl (by simp)  i fun W0 r=>?_
 refine zie rfl ?_
 refine Evs ?_
 refine zlU [0,0,0,1] rfl ?_
 refine Evs ?_
 refine zlL (x:=⟨jV,W0,h,_⟩) (zAj c.parts (k) _ e a o (by omega)) rfl (fun b d=>⟨wD (x:=c.parts) a b d,.inr (r b ((j b).2 d))⟩) ?_
 rintro v h0 s ⟨rfl,p,q⟩
 refine Evs ?_
 repeat' first|refine Wa ?_|(simp only [go_sem,jq,jj,jy,jv,jk,jx];try rfl)|refine zc3 ?_
 exact ⟨by rw [n],⟨l.1,p⟩,q⟩
theorem zAr (c:DForecast) (k:Int) (h:Hp) (w:jD h c) (j:wX h c) (g:(qj c).Nodup) (Q:0≤k∧k+(zmJ c:Nat)≤4611686018427387904):Cw jV 83 [c.v,.int .i64 k] h (fun b=>b ∈ qj c) fun v h'=>v=.int .i64 (k+(zmJ c:Nat))∧jD h' (zmI c k)∧wX h' (zmI c k):=by
 have t:=fun b a=>wD (x:=c) j b a
 have y:zmJ c=zmH c.tide+wd c.surges:=rfl
 have s:qj c=qj c.tide ++ qj c.surges:=rfl
 rw [s] at g
 rw [zmy] at j
 have i:∀ b,b ∈ qj c ↔ b ∈ qj c.tide∨b ∈ qj c.surges:=fun b=>by rw [s];simp only [ye,or_assoc]
 simp only [yE,ye] at g
 have l:jD h c.tide:=w.1
 have d:wX h c.tide:=j.1
 have z:(qj c.tide).Nodup:=g.1
 have m:jD h c.surges:=w.2
 have n:wX h c.surges:=j.2
 have D:(qj c.surges).Nodup:=g.2.1
 have e:∀ b ∈ qj c.surges,¬ (b ∈ qj c.tide):=fun b u O=>g.2.2 b O b u rfl
 refine zlK (fun A W=>by simp) Tryz.func83 rfl rfl (by simp)  t fun W0 F=>?_
 refine zie rfl ?_
 refine Evs ?_
 refine zlU [0,0,0,1] rfl ?_
 refine Evs ?_
 refine zlL (x:=⟨jV,W0,h,_⟩) (zAq c.tide (k) _ l d z (by omega)) rfl (fun b a=>⟨wD (x:=c.tide) d b a,.inr (F b ((i b).2 (Or.inl a)))⟩) ?_
 rintro v h0 G ⟨rfl,H,J⟩
 obtain ⟨o,f⟩:=ok_keep (x:=c.surges) m n e G
 refine Evs ?_
 refine zlU [0,0,0,1] rfl ?_
 refine Evs ?_
 refine zlL (x:=⟨jV,W0,h,_⟩) (zAo c.surges (k+(zmH c.tide:Nat)) _ o f D (by omega)) rfl (fun b a=>⟨wD (x:=c.surges) f b a,.inr (F b ((i b).2 (Or.inr a)))⟩) ?_
 rintro v R K ⟨rfl,M,N⟩
 have p:=ok_keep H J (fun b a u=>e b u (by rw [zn1] at a;exact a)) K
 obtain ⟨q,r⟩:=p
 refine Evs ?_
 repeat' first|refine Wa ?_|(simp only [go_sem,jq,jj,jy,jv,jk,jx];try rfl)|refine zc3 ?_
 exact ⟨by rw [y];congr 1;omega,⟨q,M⟩,⟨r,N⟩⟩
theorem zAs (s:Sl DOption) (k:Int) (h:Hp) (X:s.Ok h) (ho:wX h s) (hn:(qj s).Nodup) (hk:0≤k∧k+(wd s:Nat)≤4611686018427387904):Cw jV 42 [s.val,.int .i64 k] h (fun b=>b ∈ qj s) fun v h'=>v=.int .i64 (k+(wd s:Nat))∧jD h' (qb s k)∧wX h' (qb s k):=by
 have bm:=X.max
 have ae:wd s=cntL s.l:=rfl
 by_cases u:s.l=[]
 ·refine zlK (fun A W=>by simp) Tryz.func42 rfl rfl (by simp)  (fun b n=>wD ho b n) fun W0 Y=>?_
  refine Wk ?_
  refine zde (ι:=Unit) (fun _=>⟨[(0,true,.c (.v s.val)),(1,true,.c (.v (.int .i64 k))),(5,true,.c (.v (.int .i64 0)))],[],h,0⟩) (fun _=>True) (fun _=>0) () trivial ?_ ?_
  ·exact Evc
  rintro _ _
  refine Wk ?_
  refine zc9 rfl (fun hc=>?_) (fun hc=>?_)
  ·exact absurd (JE hc) (by rw [u];simp)
  ·refine Wk ?_
   refine ⟨by rw [ae,u];simp [cntL],⟨(by simp [qb,u,mkL]),fun J=>(J (by simp [qb,u,mkL])).elim,fun i x r=>by simp [qb,u,mkL] at r,fun x r=>by simp [qb,u,mkL] at r,X.2.2.2.2⟩,fun J=>(J (by simp [qb,u,mkL])).elim⟩
 obtain ⟨g,e,d,w,n,a8⟩:=zmr (by decide) X ho u
 have bd:wA DOption=4:=rfl
 have Z:qj s=s.blkOf :: s.l.flatMap qj:=Sl.foot_ne u
 have ag:s.blkOf=g:=by simp [Sl.blkOf,w]
 have y:g ∈ qj s:=by rw [Z,ag];exact qC ..
 have t:=hn
 rw [Z,ag] at t
 have bf:=(List.nodup_cons.1 t).1
 have t:=(List.nodup_cons.1 t).2
 have bg:∀ i (N:i < s.l.length) b,b ∈ qj s.l[i]→b ∈ qj s:=fun i N b hm=>by
  rw [Z];exact qg _ (List.mem_flatMap.2 ⟨_,qd N,hm⟩)
 have ah:∀ i (N:i < s.l.length) b,b ∈ qj s.l[i]→b ≠ g:=fun i N b hm e'=>bf (by rw [← e'];exact List.mem_flatMap.2 ⟨_,qd N,hm⟩)
 refine zlK (fun A W=>by simp) Tryz.func42 rfl rfl (by simp)  (fun b n=>wD ho b n) fun W0 Y=>?_
 refine Wk ?_
 refine zde (ι:=Nat × Hp) (fun i=>⟨[(0,true,.c (.v s.val)),(1,true,.c (.v (.int .i64 (k+(cntL (s.l.take i.1):Nat))))),(5,true,.c (.v (.int .i64 i.1)))],[],i.2,0⟩) (fun i=>i.1≤s.l.length∧i.2 g=some (.cells (rowL (mkd s.l k i.1) d).toArray e (0,0))∧∀ j (o:j < s.l.length),(j < i.1→jD i.2 (qb s.l[j] (k+(cntL (s.l.take j):Nat)))∧wX i.2 (qb s.l[j] (k+(cntL (s.l.take j):Nat))))∧(i.1≤j→jD i.2 s.l[j]∧wX i.2 s.l[j])) (fun i=>s.l.length - i.1) (0,h) ⟨jC _,by rw [zmg];exact n,fun j o=>⟨fun bh=>absurd bh (qE _),fun _=>⟨X.2.2.2.1 _ (qd o),(ho u).2 _ (qd o)⟩⟩⟩ ?_ ?_
 ·refine Evs ?_
  exact ⟨zjB (by rw [zl8];omega),rfl⟩
 rintro ⟨i,p⟩ ⟨N,K,Q⟩
 refine Wk ?_
 refine zc9 rfl (fun hd=>?_) (fun hd=>?_)
 ·have a:=zjH hd
  have aq:=zme a
  have bn:=zmf (l:=s.l) (i:=i+1)
  have hc:wd s.l[i]=3+wd s.l[i].pas:=rfl
  have z:(rowL (mkd s.l k i) d)[i * 4+3]?=some s.l[i].pas.val:=zmY (α:=DOption) (f:=3) (by rw [zmi];exact a) (by rw [zmj a];rfl)
  have D:rowL (mkd s.l k (i+1)) d=spl (i * 4) (qx (qb s.l[i] (k+(cntL (s.l.take i):Nat)))) (rowL (mkd s.l k i) d):=by
   rw [← zmk a];exact (zm1 (α:=DOption) (by rw [zmi];exact a)).symm
  have au:i * 4+4≤(rowL (mkd s.l k i) d).length:=by rw [zml,zmi,bd];omega
  obtain ⟨bi,av⟩:=(Q i a).2 (qV _)
  generalize hκ:k+((cntL (s.l.take i):Nat):Int)=κ at D
  have bp:0≤κ∧κ+(wd s.l[i]:Nat)≤4611686018427387904:=by omega
  generalize hX:rowL (mkd s.l k i) d=q at K au z D
  refine zc5 ?_
  refine Evs ?_
  refine zc3 ?_
  refine zc8 ?_
  refine zlU [0,0,0,0,0,1] rfl ?_
  simp only [go_sem,jq,jj,jy,jv,jk,jx,w,a,qq,za4,jX,jW,jb,qJ,jE,qf]
  refine zl5 (by simp only [go_sem]) (by simp only [go_sem]) rfl rfl K (.inr (Y _ y)) (by simp only [qK];omega) ?_
  simp only [go_sem,jq,jj,jy,jv,jk,jx,w,a,qq,za4,jX,jW,jb,qJ,jE,qf]
  refine zie rfl ?_
  refine Evs ?_
  rw [zjz (by omega)]
  have aw:(spl (i * 4) [.int .i64 (κ)] q).length=q.length:=zmp (by simp only [qv,qY];omega)
  refine zlU [0,0,0,0,0,1] rfl ?_
  simp only [go_sem,jq,jj,jy,jv,jk,jx,w,a,qq,za4,jX,jW,jb,qJ,jE,qf]
  refine zl5 (by simp only [go_sem]) (by simp only [go_sem]) rfl rfl qD (.inr (Y _ y)) (by simp only [qK,aw];omega) ?_
  simp only [go_sem,jq,jj,jy,jv,jk,jx,w,a,qq,za4,jX,jW,jb,qJ,jE,qf]
  rw [show spl (i * 4+1) [.int .i64 (κ+1)] (spl (i * 4) [.int .i64 (κ)] q)=spl (i * 4) [.int .i64 (κ),.int .i64 (κ+1)] q from zmo (m:=[.int .i64 (κ)]) (by simp only [qv,qY];omega)]
  refine zie rfl ?_
  refine Evs ?_
  rw [zjz (by omega)]
  have ax:(spl (i * 4) [.int .i64 (κ),.int .i64 (κ+1)] q).length=q.length:=zmp (by simp only [qv,qY];omega)
  refine zlU [0,0,0,0,0,1] rfl ?_
  simp only [go_sem,jq,jj,jy,jv,jk,jx,w,a,qq,za4,jX,jW,jb,qJ,jE,qf]
  refine zl5 (by simp only [go_sem]) (by simp only [go_sem]) rfl rfl qD (.inr (Y _ y)) (by simp only [qK,ax];omega) ?_
  simp only [go_sem,jq,jj,jy,jv,jk,jx,w,a,qq,za4,jX,jW,jb,qJ,jE,qf]
  rw [show spl (i * 4+2) [.int .i64 (κ+1+1)] (spl (i * 4) [.int .i64 (κ),.int .i64 (κ+1)] q)=spl (i * 4) [.int .i64 (κ),.int .i64 (κ+1),.int .i64 (κ+1+1)] q from zmo (m:=[.int .i64 (κ),.int .i64 (κ+1)]) (by simp only [qv,qY];omega)]
  refine zie rfl ?_
  refine Evs ?_
  rw [zjz (by omega)]
  have ai:(p.ins g (.cells (spl (i * 4) [.int .i64 (κ),.int .i64 (κ+1),.int .i64 (κ+1+1)] q).toArray e (0,0))) g=some (.cells (spl (i * 4) [.int .i64 (κ),.int .i64 (κ+1),.int .i64 (κ+1+1)] q).toArray e (0,0)):=qD
  have aa:(spl (i * 4) [.int .i64 (κ),.int .i64 (κ+1),.int .i64 (κ+1+1)] q)[i * 4+3]?=some s.l[i].pas.val:=by
   rw [zmZ (by simp only [qv,qY];omega) (by simp only [qv,qY];omega)];exact z
  have aj:=zmX ai aa
  try simp only [wy,qJ] at aj
  have J:∀ b,b ≠ g→(p.ins g (.cells (spl (i * 4) [.int .i64 (κ),.int .i64 (κ+1),.int .i64 (κ+1+1)] q).toArray e (0,0))) b=p b:=fun b n=>JJ n
  have F:∀ j (o:j < s.l.length) (x:DOption),qj x=qj s.l[j]→jD p x→wX p x→jD (p.ins g (.cells (spl (i * 4) [.int .i64 (κ),.int .i64 (κ+1),.int .i64 (κ+1+1)] q).toArray e (0,0))) x∧wX (p.ins g (.cells (spl (i * 4) [.int .i64 (κ),.int .i64 (κ+1),.int .i64 (κ+1+1)] q).toArray e (0,0))) x:=fun j o x r G h2=>Foot.loc G h2 fun b n o' M=>by rw [J b (ah j o b (by rw [← r];exact n))];exact M
  obtain ⟨az,R⟩:=F i a _ rfl bi av
  refine zlT [0,0,0,0,0,0,1] rfl ?_
  simp only [go_sem,jq,jj,jy,jv,jk,jx,w,a,qq,za4,jX,jW,jb,qJ,jE,qf,aj]
  refine zlL (x:=⟨jV,W0,h,_⟩) (zAk s.l[i].pas (κ+1+1+1) _ az.2.2.2 R (zmW t (qd a)) (by omega)) rfl (fun b n=>⟨wD R b n,.inr (Y b (bg i a b n))⟩) ?_
  rintro v h2 H ⟨rfl,bj,a7⟩
  refine Evs ?_
  refine Wk ?_
  have bk:h2 g=some (.cells (rowL (mkd s.l k (i+1)) d).toArray e (0,0)):=by
   rw [D]
   refine H g _ ?_ (fun n=>ah i a g n rfl)
   rw [ai]
   congr 3
   rw [show qx (qb s.l[i] κ)=[.int .i64 (κ),.int .i64 (κ+1),.int .i64 (κ+1+1)] ++ [s.l[i].pas.val] from ?_]
   ·rw [zm0 z]
   ·simp only [qb,qx,DOption.cells,yc,yd,mkB,Sl.val,zmb]
    rfl
  refine ⟨(i+1,h2),⟨a,bk,fun j o=>⟨fun ab=>?_,fun ak=>?_⟩⟩,by simp only;omega,?_⟩
  ·rcases Nat.lt_succ_iff_lt_or_eq.1 ab with ab|rfl
   ·obtain ⟨G,O⟩:=(Q j o).1 ab
    obtain ⟨G,O⟩:=F j o _ (MkOk.foot _ _) G O
    exact Foot.loc G O fun b n o' M=>H b o' M fun ac=>zmV t o a (by omega) b (by rw [← MkOk.foot s.l[j] (k+(cntL (s.l.take j):Nat))];exact n) ac
   ·simp only [hκ]
    exact ⟨(show jD h2 (qb s.l[j] κ) from ⟨(by unfold I64;simp only [qb];omega),(by unfold I64;simp only [qb];omega),(by unfold I64;simp only [qb];omega),(by have h9:=bj;(try simp only [yc,yd] at h9);exact h9)⟩),(show wX h2 (qb s.l[j] κ) from by have h9:=a7;(try simp only [yc,yd] at h9);exact h9)⟩
  ·obtain ⟨G,O⟩:=(Q j o).2 (by simp only at ak;omega)
   obtain ⟨G,O⟩:=F j o _ rfl G O
   exact Foot.loc G O fun b n o' M=>H b o' M fun ac=>zmV t o a (by simp only at ak;omega) b n ac
  ·refine Evs ?_
   exact ⟨zjB (by rw [aq,hc];omega),zjB (zjA a (by omega))⟩
 ·have al:=zjI hd
  have am:i=s.l.length:=wE N al
  refine Wk ?_
  have hp:mkd s.l k i=(qb s k).l:=zmh al
  rw [hp] at K
  have an:(qb s k).l.length=s.l.length:=zmb
  have ao:∀ x ∈ (qb s k).l,jD p x∧wX p x:=fun x r=>by
   obtain ⟨j,o,rfl⟩:=zm2 r
   exact (Q j o).1 (by rw [am];exact o)
  have ap:=zmq (α:=DOption) (h:=p) (g:=g) (cap:=s.cap) (by decide) K (by rw [an];exact X.1) X.2.2.2.2 (fun x r=>(ao x r).1)
  have bl:(Sl.mk (some ⟨g,0,none⟩) s.cap (qb s k).l:Sl DOption)=qb s k:=by rw [← w];rfl
  rw [bl] at ap
  refine ⟨by rw [am,qG,ae],ap,fun _=>⟨⟨g,_,e,w,K,?_⟩,fun x r=>(ao x r).2⟩⟩
  rw [qK,zml,an,a8]
  rfl
theorem zAt (c:DHarbour) (k:Int) (h:Hp) (u:jD h c) (t:wX h c) (e:(qj c).Nodup) (hk:0≤k∧k+(zmN c:Nat)≤4611686018427387904):Cw jV 24 [c.v,.int .i64 k] h (fun b=>b ∈ qj c) fun v h'=>v=.int .i64 (k+(zmN c:Nat))∧jD h' (zmM c k)∧wX h' (zmM c k):=by
 have bf:=fun b a=>wD (x:=c) t b a
 have bg:zmN c=zmJ c.forecast+zmL c.chart+wd c.fleet+zmF c.crew:=rfl
 have bd:qj c=qj c.forecast ++ qj c.chart ++ qj c.fleet ++ qj c.crew:=rfl
 rw [bd] at e
 rw [zmC] at t
 have g:∀ b,b ∈ qj c ↔ b ∈ qj c.forecast∨b ∈ qj c.chart∨b ∈ qj c.fleet∨b ∈ qj c.crew:=fun b=>by rw [bd];simp only [ye,or_assoc]
 simp only [yE,ye] at e
 have F:jD h c.forecast:=u.1
 have i:wX h c.forecast:=t.1
 have bh:(qj c.forecast).Nodup:=e.1.1.1
 have G:jD h c.chart:=u.2.1
 have H:wX h c.chart:=t.2.1
 have bi:(qj c.chart).Nodup:=e.1.1.2.1
 have j:∀ b ∈ qj c.chart,¬ (b ∈ qj c.forecast):=fun b d f=>e.1.1.2.2 b f b d rfl
 have J:jD h c.fleet:=u.2.2.1
 have K:wX h c.fleet:=t.2.2.1
 have bj:(qj c.fleet).Nodup:=e.1.2.1
 have l:∀ b ∈ qj c.fleet,¬ (b ∈ qj c.forecast):=fun b d f=>e.1.2.2 b (Or.inl f) b d rfl
 have m:∀ b ∈ qj c.fleet,¬ (b ∈ qj c.chart):=fun b d f=>e.1.2.2 b (Or.inr f) b d rfl
 have M:jD h c.crew:=u.2.2.2.2
 have N:wX h c.crew:=t.2.2.2
 have bk:(qj c.crew).Nodup:=e.2.1
 have n:∀ b ∈ qj c.crew,¬ (b ∈ qj c.forecast):=fun b d f=>e.2.2 b (Or.inl (Or.inl f)) b d rfl
 have o:∀ b ∈ qj c.crew,¬ (b ∈ qj c.chart):=fun b d f=>e.2.2 b (Or.inl (Or.inr f)) b d rfl
 have p:∀ b ∈ qj c.crew,¬ (b ∈ qj c.fleet):=fun b d f=>e.2.2 b (Or.inr f) b d rfl
 refine zlK (fun A W=>by simp) Tryz.func24 rfl rfl (by simp)  bf fun W0 O=>?_
 refine zie rfl ?_
 refine Evs ?_
 refine zlU [0,0,0,1] rfl ?_
 refine Evs ?_
 refine zlL (x:=⟨jV,W0,h,_⟩) (zAr c.forecast (k) _ F i bh (by omega)) rfl (fun b a=>⟨wD (x:=c.forecast) i b a,.inr (O b ((g b).2 (Or.inl a)))⟩) ?_
 rintro v h0 w ⟨rfl,bl,bm⟩
 obtain ⟨Q,q⟩:=ok_keep (x:=c.chart) G H j w
 obtain ⟨R,X⟩:=ok_keep (x:=c.fleet) J K l w
 obtain ⟨Y,Z⟩:=ok_keep (x:=c.crew) M N n w
 refine Evs ?_
 refine zlU [0,0,0,1] rfl ?_
 refine Evs ?_
 refine zlL (x:=⟨jV,W0,h,_⟩) (zAp c.chart (k+(zmJ c.forecast:Nat)) _ Q q bi (by omega)) rfl (fun b a=>⟨wD (x:=c.chart) q b a,.inr (O b ((g b).2 (Or.inr (Or.inl a))))⟩) ?_
 rintro v h1 y ⟨rfl,bn,bp⟩
 have aa:=ok_keep bl bm (fun b a d=>j b d (by rw [zn3] at a;exact a)) y
 obtain ⟨ab,ac⟩:=aa
 obtain ⟨ae,r⟩:=ok_keep (x:=c.fleet) R X m y
 obtain ⟨ag,ah⟩:=ok_keep (x:=c.crew) Y Z o y
 refine Evs ?_
 refine zlU [0,0,0,1] rfl ?_
 refine Evs ?_
 refine zlL (x:=⟨jV,W0,h,_⟩) (zAn c.fleet (k+(zmJ c.forecast:Nat)+(zmL c.chart:Nat)) _ ae r bj (by omega)) rfl (fun b a=>⟨wD (x:=c.fleet) r b a,.inr (O b ((g b).2 (Or.inr (Or.inr (Or.inl a)))))⟩) ?_
 rintro v h2 z ⟨rfl,bq,br⟩
 have ai:=ok_keep ab ac (fun b a d=>l b d (by rw [zn3] at a;exact a)) z
 obtain ⟨aj,ak⟩:=ai
 have al:=ok_keep bn bp (fun b a d=>m b d (by rw [zn5] at a;exact a)) z
 obtain ⟨am,an⟩:=al
 obtain ⟨ao,s⟩:=ok_keep (x:=c.crew) ag ah p z
 refine Evs ?_
 refine zlU [0,0,0,1] rfl ?_
 refine Evs ?_
 refine zlL (x:=⟨jV,W0,h,_⟩) (zAi c.crew (k+(zmJ c.forecast:Nat)+(zmL c.chart:Nat)+(wd c.fleet:Nat)) _ ao s bk (by omega)) rfl (fun b a=>⟨wD (x:=c.crew) s b a,.inr (O b ((g b).2 (Or.inr (Or.inr (Or.inr a)))))⟩) ?_
 rintro v h3 D ⟨rfl,bt,bu⟩
 have ap:=ok_keep aj ak (fun b a d=>n b d (by rw [zn3] at a;exact a)) D
 obtain ⟨aq,au⟩:=ap
 have av:=ok_keep am an (fun b a d=>o b d (by rw [zn5] at a;exact a)) D
 obtain ⟨aw,ax⟩:=av
 have az:=ok_keep bq br (fun b a d=>p b d (by rw [MkOk.foot] at a;exact a)) D
 obtain ⟨a7,a8⟩:=az
 refine Evs ?_
 repeat' first|refine Wa ?_|(simp only [go_sem,jq,jj,jy,jv,jk,jx];try rfl)|refine zc3 ?_
 exact ⟨by rw [bg];congr 1;omega,⟨aq,aw,a7,u.2.2.2.1,bt⟩,⟨au,ax,a8,bu⟩⟩
theorem zAu (s:Sl DBranch) (k:Int) (h:Hp) (X:s.Ok h) (ho:wX h s) (hn:(qj s).Nodup) (hk:0≤k∧k+(wd s:Nat)≤4611686018427387904):Cw jV 87 [s.val,.int .i64 k] h (fun b=>b ∈ qj s) fun v h'=>v=.int .i64 (k+(wd s:Nat))∧jD h' (qb s k)∧wX h' (qb s k):=by
 have bk:=X.max
 have ac:wd s=cntL s.l:=rfl
 by_cases t:s.l=[]
 ·refine zlK (fun A W=>by simp) Tryz.func87 rfl rfl (by simp)  (fun b n=>wD ho b n) fun W0 hW=>?_
  refine Wk ?_
  refine zde (ι:=Unit) (fun _=>⟨[(0,true,.c (.v s.val)),(1,true,.c (.v (.int .i64 k))),(5,true,.c (.v (.int .i64 0)))],[],h,0⟩) (fun _=>True) (fun _=>0) () trivial ?_ ?_
  ·exact Evc
  rintro _ _
  refine Wk ?_
  refine zc9 rfl (fun hc=>?_) (fun hc=>?_)
  ·exact absurd (JE hc) (by rw [t];simp)
  ·refine Wk ?_
   refine ⟨by rw [ac,t];simp [cntL],⟨(by simp [qb,t,mkL]),fun G=>(G (by simp [qb,t,mkL])).elim,fun i x q=>by simp [qb,t,mkL] at q,fun x q=>by simp [qb,t,mkL] at q,X.2.2.2.2⟩,fun G=>(G (by simp [qb,t,mkL])).elim⟩
 obtain ⟨g,e,d,H,n,az⟩:=zmr (by decide) X ho t
 have a7:wA DBranch=3:=rfl
 have Y:qj s=s.blkOf :: s.l.flatMap qj:=Sl.foot_ne t
 have ae:s.blkOf=g:=by simp [Sl.blkOf,H]
 have O:g ∈ qj s:=by rw [Y,ae];exact qC ..
 have r:=hn
 rw [Y,ae] at r
 have a8:=(List.nodup_cons.1 r).1
 have r:=(List.nodup_cons.1 r).2
 have bd:∀ i (M:i < s.l.length) b,b ∈ qj s.l[i]→b ∈ qj s:=fun i M b hm=>by
  rw [Y];exact qg _ (List.mem_flatMap.2 ⟨_,qd M,hm⟩)
 have ag:∀ i (M:i < s.l.length) b,b ∈ qj s.l[i]→b ≠ g:=fun i M b hm e'=>a8 (by rw [← e'];exact List.mem_flatMap.2 ⟨_,qd M,hm⟩)
 refine zlK (fun A W=>by simp) Tryz.func87 rfl rfl (by simp)  (fun b n=>wD ho b n) fun W0 hW=>?_
 refine Wk ?_
 refine zde (ι:=Nat × Hp) (fun i=>⟨[(0,true,.c (.v s.val)),(1,true,.c (.v (.int .i64 (k+(cntL (s.l.take i.1):Nat))))),(5,true,.c (.v (.int .i64 i.1)))],[],i.2,0⟩) (fun i=>i.1≤s.l.length∧i.2 g=some (.cells (rowL (mkd s.l k i.1) d).toArray e (0,0))∧∀ j (o:j < s.l.length),(j < i.1→jD i.2 (qb s.l[j] (k+(cntL (s.l.take j):Nat)))∧wX i.2 (qb s.l[j] (k+(cntL (s.l.take j):Nat))))∧(i.1≤j→jD i.2 s.l[j]∧wX i.2 s.l[j])) (fun i=>s.l.length - i.1) (0,h) ⟨jC _,by rw [zmg];exact n,fun j o=>⟨fun bf=>absurd bf (qE _),fun _=>⟨X.2.2.2.1 _ (qd o),(ho t).2 _ (qd o)⟩⟩⟩ ?_ ?_
 ·refine Evs ?_
  exact ⟨zjB (by rw [zl8];omega),rfl⟩
 rintro ⟨i,p⟩ ⟨M,J,Q⟩
 refine Wk ?_
 refine zc9 rfl (fun hd=>?_) (fun hd=>?_)
 ·have a:=zjH hd
  have ap:=zme a
  have bl:=zmf (l:=s.l) (i:=i+1)
  have hc:wd s.l[i]=2+wd s.l[i].plan:=rfl
  have w:(rowL (mkd s.l k i) d)[i * 3+2]?=some s.l[i].plan.val:=zmY (α:=DBranch) (f:=2) (by rw [zmi];exact a) (by rw [zmj a];rfl)
  have y:rowL (mkd s.l k (i+1)) d=spl (i * 3) (qx (qb s.l[i] (k+(cntL (s.l.take i):Nat)))) (rowL (mkd s.l k i) d):=by
   rw [← zmk a];exact (zm1 (α:=DBranch) (by rw [zmi];exact a)).symm
  have aq:i * 3+3≤(rowL (mkd s.l k i) d).length:=by rw [zml,zmi,a7];omega
  obtain ⟨bg,au⟩:=(Q i a).2 (qV _)
  generalize hκ:k+((cntL (s.l.take i):Nat):Int)=κ at y
  have bm:0≤κ∧κ+(wd s.l[i]:Nat)≤4611686018427387904:=by omega
  generalize hX:rowL (mkd s.l k i) d=u at J aq w y
  refine zc5 ?_
  refine Evs ?_
  refine zc3 ?_
  refine zc8 ?_
  refine zlU [0,0,0,0,0,1] rfl ?_
  simp only [go_sem,jq,jj,jy,jv,jk,jx,H,a,qq,za4,jX,jW,jb,qJ,jE,qf]
  refine zl5 (by simp only [go_sem]) (by simp only [go_sem]) rfl rfl J (.inr (hW _ O)) (by simp only [qK];omega) ?_
  simp only [go_sem,jq,jj,jy,jv,jk,jx,H,a,qq,za4,jX,jW,jb,qJ,jE,qf]
  refine zie rfl ?_
  refine Evs ?_
  rw [zjz (by omega)]
  have av:(spl (i * 3) [.int .i64 (κ)] u).length=u.length:=zmp (by simp only [qv,qY];omega)
  refine zlU [0,0,0,0,0,1] rfl ?_
  simp only [go_sem,jq,jj,jy,jv,jk,jx,H,a,qq,za4,jX,jW,jb,qJ,jE,qf]
  refine zl5 (by simp only [go_sem]) (by simp only [go_sem]) rfl rfl qD (.inr (hW _ O)) (by simp only [qK,av];omega) ?_
  simp only [go_sem,jq,jj,jy,jv,jk,jx,H,a,qq,za4,jX,jW,jb,qJ,jE,qf]
  rw [show spl (i * 3+1) [.int .i64 (κ+1)] (spl (i * 3) [.int .i64 (κ)] u)=spl (i * 3) [.int .i64 (κ),.int .i64 (κ+1)] u from zmo (m:=[.int .i64 (κ)]) (by simp only [qv,qY];omega)]
  refine zie rfl ?_
  refine Evs ?_
  rw [zjz (by omega)]
  have ah:(p.ins g (.cells (spl (i * 3) [.int .i64 (κ),.int .i64 (κ+1)] u).toArray e (0,0))) g=some (.cells (spl (i * 3) [.int .i64 (κ),.int .i64 (κ+1)] u).toArray e (0,0)):=qD
  have Z:(spl (i * 3) [.int .i64 (κ),.int .i64 (κ+1)] u)[i * 3+2]?=some s.l[i].plan.val:=by
   rw [zmZ (by simp only [qv,qY];omega) (by simp only [qv,qY];omega)];exact w
  have ai:=zmX ah Z
  try simp only [wy,qJ] at ai
  have G:∀ b,b ≠ g→(p.ins g (.cells (spl (i * 3) [.int .i64 (κ),.int .i64 (κ+1)] u).toArray e (0,0))) b=p b:=fun b n=>JJ n
  have z:∀ j (o:j < s.l.length) (x:DBranch),qj x=qj s.l[j]→jD p x→wX p x→jD (p.ins g (.cells (spl (i * 3) [.int .i64 (κ),.int .i64 (κ+1)] u).toArray e (0,0))) x∧wX (p.ins g (.cells (spl (i * 3) [.int .i64 (κ),.int .i64 (κ+1)] u).toArray e (0,0))) x:=fun j o x q D h2=>Foot.loc D h2 fun b n o' K=>by rw [G b (ag j o b (by rw [← q];exact n))];exact K
  obtain ⟨aw,R⟩:=z i a _ rfl bg au
  refine zlT [0,0,0,0,0,0,1] rfl ?_
  simp only [go_sem,jq,jj,jy,jv,jk,jx,H,a,qq,za4,jX,jW,jb,qJ,jE,qf,ai]
  refine zlL (x:=⟨jV,W0,h,_⟩) (zAs s.l[i].plan (κ+1+1) _ aw.2.2 R (zmW r (qd a)) (by omega)) rfl (fun b n=>⟨wD R b n,.inr (hW b (bd i a b n))⟩) ?_
  rintro v h2 F ⟨rfl,bh,ax⟩
  refine Evs ?_
  refine Wk ?_
  have bi:h2 g=some (.cells (rowL (mkd s.l k (i+1)) d).toArray e (0,0)):=by
   rw [y]
   refine F g _ ?_ (fun n=>ag i a g n rfl)
   rw [ah]
   congr 3
   rw [show qx (qb s.l[i] κ)=[.int .i64 (κ),.int .i64 (κ+1)] ++ [s.l[i].plan.val] from ?_]
   ·rw [zm0 w]
   ·simp only [qb,qx,DBranch.cells,yc,yd,mkB,Sl.val,zmb]
    rfl
  refine ⟨(i+1,h2),⟨a,bi,fun j o=>⟨fun aa=>?_,fun aj=>?_⟩⟩,by simp only;omega,?_⟩
  ·rcases Nat.lt_succ_iff_lt_or_eq.1 aa with aa|rfl
   ·obtain ⟨D,N⟩:=(Q j o).1 aa
    obtain ⟨D,N⟩:=z j o _ (MkOk.foot _ _) D N
    exact Foot.loc D N fun b n o' K=>F b o' K fun ab=>zmV r o a (by omega) b (by rw [← MkOk.foot s.l[j] (k+(cntL (s.l.take j):Nat))];exact n) ab
   ·simp only [hκ]
    exact ⟨(show jD h2 (qb s.l[j] κ) from ⟨(by unfold I64;simp only [qb];omega),(by unfold I64;simp only [qb];omega),(by have h9:=bh;(try simp only [yc,yd] at h9);exact h9)⟩),(show wX h2 (qb s.l[j] κ) from by have h9:=ax;(try simp only [yc,yd] at h9);exact h9)⟩
  ·obtain ⟨D,N⟩:=(Q j o).2 (by simp only at aj;omega)
   obtain ⟨D,N⟩:=z j o _ rfl D N
   exact Foot.loc D N fun b n o' K=>F b o' K fun ab=>zmV r o a (by simp only at aj;omega) b n ab
  ·refine Evs ?_
   exact ⟨zjB (by rw [ap,hc];omega),zjB (zjA a (by omega))⟩
 ·have ak:=zjI hd
  have al:i=s.l.length:=wE M ak
  refine Wk ?_
  have hp:mkd s.l k i=(qb s k).l:=zmh ak
  rw [hp] at J
  have am:(qb s k).l.length=s.l.length:=zmb
  have an:∀ x ∈ (qb s k).l,jD p x∧wX p x:=fun x q=>by
   obtain ⟨j,o,rfl⟩:=zm2 q
   exact (Q j o).1 (by rw [al];exact o)
  have ao:=zmq (α:=DBranch) (h:=p) (g:=g) (cap:=s.cap) (by decide) J (by rw [am];exact X.1) X.2.2.2.2 (fun x q=>(an x q).1)
  have bj:(Sl.mk (some ⟨g,0,none⟩) s.cap (qb s k).l:Sl DBranch)=qb s k:=by rw [← H];rfl
  rw [bj] at ao
  refine ⟨by rw [al,qG,ac],ao,fun _=>⟨⟨g,_,e,H,J,?_⟩,fun x q=>(an x q).2⟩⟩
  rw [qK,zml,am,az]
  rfl
theorem zAv (c:DStrategy) (k:Int) (h:Hp) (l:jD h c) (g:wX h c) (m:(qj c).Nodup) (t:0≤k∧k+(zmP c:Nat)≤4611686018427387904):Cw jV 27 [c.v,.int .i64 k] h (fun b=>b ∈ qj c) fun v h'=>v=.int .i64 (k+(zmP c:Nat))∧jD h' (zmO c k)∧wX h' (zmO c k):=by
 have i:=fun b d=>wD (x:=c) g b d
 have n:zmP c=wd c.branches:=rfl
 have f:qj c=qj c.branches:=rfl
 rw [f] at m
 rw [zmD] at g
 have j:∀ b,b ∈ qj c ↔ b ∈ qj c.branches:=fun b=>by rw [f]
 have e:jD h c.branches:=l.2
 have a:wX h c.branches:=g
 have o:(qj c.branches).Nodup:=m
 refine zlK (fun A W=>by simp) Tryz.func27 rfl rfl (by simp)  i fun W0 r=>?_
 refine zie rfl ?_
 refine Evs ?_
 refine zlU [0,0,0,1] rfl ?_
 refine Evs ?_
 refine zlL (x:=⟨jV,W0,h,_⟩) (zAu c.branches (k) _ e a o (by omega)) rfl (fun b d=>⟨wD (x:=c.branches) a b d,.inr (r b ((j b).2 d))⟩) ?_
 rintro v h0 s ⟨rfl,p,q⟩
 refine Evs ?_
 repeat' first|refine Wa ?_|(simp only [go_sem,jq,jj,jy,jv,jk,jx];try rfl)|refine zc3 ?_
 exact ⟨by rw [n],⟨l.1,p⟩,q⟩
theorem zAw (s:Sl DPassage) (k:Int) (h:Hp) (d:s.Ok h) (u:mkL s.l k=s.l) (F:0≤k∧k+(wd s:Nat)≤4611686018427387904):Ct jV 103 [s.val,.int .i64 k] h fun v h'=>v=.int .i64 (k+(wd s:Nat))∧h'=h:=by
 have w:=d.max
 have j:wd s=cntL s.l:=rfl
 refine zdn (fun A W=>by simp) Tryz.func103 rfl rfl (by simp) fun W0=>?_
 refine Wk ?_
 refine zde (ι:=Nat) (fun i=>⟨[(0,true,.c (.v s.val)),(1,true,.c (.v (.int .i64 (k+(cntL (s.l.take i):Nat))))),(5,true,.c (.v (.int .i64 i)))],[],h,0⟩) (fun i=>i≤s.l.length) (fun i=>s.l.length - i) 0 (jC _) ?_ ?_
 ·refine Evs ?_
  exact ⟨zjB (by rw [zl8];omega),rfl⟩
 intro i x
 refine Wk ?_
 refine zc9 rfl (fun f=>?_) (fun f=>?_)
 ·have a:=zjH f
  have g:=zme a
  have y:=zmf (l:=s.l) (i:=i+1)
  have e:=zmR u a
  generalize G:k+((cntL (s.l.take i):Nat):Int)=κ at e
  have D:0≤κ∧κ+(wd s.l[i]:Nat)≤4611686018427387904:=by omega
  have z:wd s.l[i]=5:=rfl
  have m:s.l[i].ship=κ:=(congrArg DPassage.ship e).trans (by simp only [qb])
  have n:s.l[i].seg=κ+1:=(congrArg DPassage.seg e).trans (by simp only [qb])
  have o:s.l[i].toward=((κ+1+1).tmod 3 == 0):=(congrArg DPassage.toward e).trans (by simp only [qb,mkB,yc,yd])
  have p:s.l[i].start=κ+1+1+1:=(congrArg DPassage.start e).trans (by simp only [qb];try omega)
  have q:s.l[i].fin=κ+1+1+1+1:=(congrArg DPassage.fin e).trans (by simp only [qb];try omega)
  repeat' first|refine Wa ?_|(simp only [go_sem,jq,jj,jy,jv,jk,jx,zm3 d a,d.some a,a,jW];try rfl)|refine zc3 ?_
  refine zc9 rfl (fun b=>?_) (fun b=>?_)
  ·exact absurd m (zjD b)
  refine zc5 ?_
  refine Evs ?_
  refine zie rfl ?_
  refine Evs ?_
  rw [zjz (by omega)]
  repeat' first|refine Wa ?_|(simp only [go_sem,jq,jj,jy,jv,jk,jx,zm3 d a,d.some a,a,jW];try rfl)|refine zc3 ?_
  refine zc9 rfl (fun b=>?_) (fun b=>?_)
  ·exact absurd n (zjD b)
  refine zc5 ?_
  refine Evs ?_
  refine zie rfl ?_
  refine Evs ?_
  rw [zjz (by omega)]
  repeat' first|refine Wa ?_|(simp only [go_sem,jq,jj,jy,jv,jk,jx,zm3 d a,d.some a,a,jW];try rfl)|refine zc3 ?_
  refine ⟨by decide,?_⟩
  repeat' first|refine Wa ?_|(simp only [go_sem,jq,jj,jy,jv,jk,jx,zm3 d a,d.some a,a,jW];try rfl)|refine zc3 ?_
  refine zc9 rfl (fun b=>?_) (fun b=>?_)
  ·exact absurd o (zjD b)
  refine zc5 ?_
  refine Evs ?_
  refine zie rfl ?_
  refine Evs ?_
  rw [zjz (by omega)]
  repeat' first|refine Wa ?_|(simp only [go_sem,jq,jj,jy,jv,jk,jx,zm3 d a,d.some a,a,jW];try rfl)|refine zc3 ?_
  refine zc9 rfl (fun b=>?_) (fun b=>?_)
  ·exact absurd p (zjD b)
  refine zc5 ?_
  refine Evs ?_
  refine zie rfl ?_
  refine Evs ?_
  rw [zjz (by omega)]
  repeat' first|refine Wa ?_|(simp only [go_sem,jq,jj,jy,jv,jk,jx,zm3 d a,d.some a,a,jW];try rfl)|refine zc3 ?_
  refine zc9 rfl (fun b=>?_) (fun b=>?_)
  ·exact absurd q (zjD b)
  refine zc5 ?_
  refine Evs ?_
  refine zc4 rfl ?_
  refine Evs ?_
  rw [zjz (by omega)]
  refine Wk ?_
  exact ⟨i+1,a,by omega,zjB (by rw [g,z];omega),zjB (zjA a (by omega))⟩
 ·have r:=zjI f
  have t:i=s.l.length:=wE x r
  refine Wk ?_
  rw [t,qG,j]
theorem zAx (s:Sl DOption) (k:Int) (h:Hp) (d:s.Ok h) (t:mkL s.l k=s.l) (F:0≤k∧k+(wd s:Nat)≤4611686018427387904):Ct jV 43 [s.val,.int .i64 k] h fun v h'=>v=.int .i64 (k+(wd s:Nat))∧h'=h:=by
 have u:=d.max
 have j:wd s=cntL s.l:=rfl
 refine zdn (fun A W=>by simp) Tryz.func43 rfl rfl (by simp) fun W0=>?_
 refine Wk ?_
 refine zde (ι:=Nat) (fun i=>⟨[(0,true,.c (.v s.val)),(1,true,.c (.v (.int .i64 (k+(cntL (s.l.take i):Nat))))),(5,true,.c (.v (.int .i64 i)))],[],h,0⟩) (fun i=>i≤s.l.length) (fun i=>s.l.length - i) 0 (jC _) ?_ ?_
 ·refine Evs ?_
  exact ⟨zjB (by rw [zl8];omega),rfl⟩
 intro i w
 refine Wk ?_
 refine zc9 rfl (fun f=>?_) (fun f=>?_)
 ·have a:=zjH f
  have g:=zme a
  have x:=zmf (l:=s.l) (i:=i+1)
  have e:=zmR t a
  generalize G:k+((cntL (s.l.take i):Nat):Int)=κ at e
  have D:0≤κ∧κ+(wd s.l[i]:Nat)≤4611686018427387904:=by omega
  have y:wd s.l[i]=3+wd s.l[i].pas:=rfl
  have m:s.l[i].start=κ:=(congrArg DOption.start e).trans (by simp only [qb])
  have n:s.l[i].arr=κ+1:=(congrArg DOption.arr e).trans (by simp only [qb])
  have o:s.l[i].cost=κ+1+1:=(congrArg DOption.cost e).trans (by simp only [qb];try omega)
  have p:mkL s.l[i].pas.l (κ+1+1+1)=s.l[i].pas.l:=((congrArg (fun z=>(DOption.pas z).l) e).trans (by simp only [qb,yc,yd])).symm
  repeat' first|refine Wa ?_|(simp only [go_sem,jq,jj,jy,jv,jk,jx,zm4 d a,d.some a,a,jW];try rfl)|refine zc3 ?_
  refine zc9 rfl (fun b=>?_) (fun b=>?_)
  ·exact absurd m (zjD b)
  refine zc5 ?_
  refine Evs ?_
  refine zie rfl ?_
  refine Evs ?_
  rw [zjz (by omega)]
  repeat' first|refine Wa ?_|(simp only [go_sem,jq,jj,jy,jv,jk,jx,zm4 d a,d.some a,a,jW];try rfl)|refine zc3 ?_
  refine zc9 rfl (fun b=>?_) (fun b=>?_)
  ·exact absurd n (zjD b)
  refine zc5 ?_
  refine Evs ?_
  refine zie rfl ?_
  refine Evs ?_
  rw [zjz (by omega)]
  repeat' first|refine Wa ?_|(simp only [go_sem,jq,jj,jy,jv,jk,jx,zm4 d a,d.some a,a,jW];try rfl)|refine zc3 ?_
  refine zc9 rfl (fun b=>?_) (fun b=>?_)
  ·exact absurd o (zjD b)
  refine zc5 ?_
  refine Evs ?_
  refine zie rfl ?_
  refine Evs ?_
  rw [zjz (by omega)]
  repeat' first|refine Wa ?_|refine zhF (fun _=>zAw _ _ _ (d.el a).2.2.2 p (by omega)) ?_|(simp only [go_sem,jq,jj,jy,jv,jk,jx,zm4 d a,d.some a,a,jW];try rfl)|refine Wb ?_|fail
  refine zc9 rfl (fun b=>?_) (fun b=>?_)
  ·exact absurd (JE b) (by omega)
  refine Wk ?_
  exact ⟨i+1,a,by omega,zjB (by rw [g,y];omega),zjB (zjA a (by omega))⟩
 ·have q:=zjI f
  have r:i=s.l.length:=wE w q
  refine Wk ?_
  rw [r,qG,j]
theorem zAy (s:Sl DBranch) (k:Int) (h:Hp) (b:s.Ok h) (r:mkL s.l k=s.l) (D:0≤k∧k+(wd s:Nat)≤4611686018427387904):Ct jV 88 [s.val,.int .i64 k] h fun v h'=>v=.int .i64 (k+(wd s:Nat))∧h'=h:=by
 have t:=b.max
 have j:wd s=cntL s.l:=rfl
 refine zdn (fun A W=>by simp) Tryz.func88 rfl rfl (by simp) fun W0=>?_
 refine Wk ?_
 refine zde (ι:=Nat) (fun i=>⟨[(0,true,.c (.v s.val)),(1,true,.c (.v (.int .i64 (k+(cntL (s.l.take i):Nat))))),(5,true,.c (.v (.int .i64 i)))],[],h,0⟩) (fun i=>i≤s.l.length) (fun i=>s.l.length - i) 0 (jC _) ?_ ?_
 ·refine Evs ?_
  exact ⟨zjB (by rw [zl8];omega),rfl⟩
 intro i u
 refine Wk ?_
 refine zc9 rfl (fun f=>?_) (fun f=>?_)
 ·have a:=zjH f
  have g:=zme a
  have w:=zmf (l:=s.l) (i:=i+1)
  have e:=zmR r a
  generalize F:k+((cntL (s.l.take i):Nat):Int)=κ at e
  have y:0≤κ∧κ+(wd s.l[i]:Nat)≤4611686018427387904:=by omega
  have x:wd s.l[i]=2+wd s.l[i].plan:=rfl
  have m:s.l[i].low=κ:=(congrArg DBranch.low e).trans (by simp only [qb])
  have n:s.l[i].high=κ+1:=(congrArg DBranch.high e).trans (by simp only [qb])
  have o:mkL s.l[i].plan.l (κ+1+1)=s.l[i].plan.l:=((congrArg (fun z=>(DBranch.plan z).l) e).trans (by simp only [qb,yc,yd])).symm
  repeat' first|refine Wa ?_|(simp only [go_sem,jq,jj,jy,jv,jk,jx,zm9 b a,b.some a,a,jW];try rfl)|refine zc3 ?_
  refine zc9 rfl (fun d=>?_) (fun d=>?_)
  ·exact absurd m (zjD d)
  refine zc5 ?_
  refine Evs ?_
  refine zie rfl ?_
  refine Evs ?_
  rw [zjz (by omega)]
  repeat' first|refine Wa ?_|(simp only [go_sem,jq,jj,jy,jv,jk,jx,zm9 b a,b.some a,a,jW];try rfl)|refine zc3 ?_
  refine zc9 rfl (fun d=>?_) (fun d=>?_)
  ·exact absurd n (zjD d)
  refine zc5 ?_
  refine Evs ?_
  refine zie rfl ?_
  refine Evs ?_
  rw [zjz (by omega)]
  repeat' first|refine Wa ?_|refine zhF (fun _=>zAx _ _ _ (b.el a).2.2 o (by omega)) ?_|(simp only [go_sem,jq,jj,jy,jv,jk,jx,zm9 b a,b.some a,a,jW];try rfl)|refine Wb ?_|fail
  refine zc9 rfl (fun d=>?_) (fun d=>?_)
  ·exact absurd (JE d) (by omega)
  refine Wk ?_
  exact ⟨i+1,a,by omega,zjB (by rw [g,x];omega),zjB (zjA a (by omega))⟩
 ·have p:=zjI f
  have q:i=s.l.length:=wE u p
  refine Wk ?_
  rw [q,qG,j]
theorem zAz (c:DStrategy) (k:Int) (h:Hp) (d:jD h c) (e:zmO c k=c) (g:0≤k∧k+(zmP c:Nat)≤4611686018427387904):Ct jV 28 [c.v,.int .i64 k] h fun v h'=>v=.int .i64 (k+(zmP c:Nat))∧h'=h:=by
 have f:zmP c=wd c.branches:=rfl
 have a:mkL c.branches.l (k)=c.branches.l:=congrArg (fun z=>(DStrategy.branches z).l) e
 refine zdn (fun A W=>by simp) Tryz.func28 rfl rfl (by simp) fun W0=>?_
 repeat' first|refine Wa ?_|refine zhF (fun _=>zAy _ _ _ d.2 a (by omega)) ?_|(simp only [go_sem,jq,jj,jy,jv,jk,jx];try rfl)|refine Wb ?_|fail
 refine zc9 rfl (fun b=>?_) (fun b=>?_)
 ·exact absurd (JE b) (by omega)
 exact Wk0
theorem zAA (n a b:Int) (h:Hp):Ct jV 65 [.int .i64 n,.int .i64 a,.int .i64 b] h fun v h'=>v=.bool (decide (a≤n) && decide (n≤b))∧h'=h:=by
 refine zdn (fun A W=>by simp) Tryz.func65 rfl rfl (by simp) fun W0=>?_
 exact Wk0
theorem zAB (n a b:Int) (h:Hp):Ct jV 98 [.int .i64 n,.int .i64 a,.int .i64 b] h fun v h'=>v=.bool (decide (a≤n) && decide (n≤b))∧h'=h:=by
 refine zdn (fun A W=>by simp) Tryz.func98 rfl rfl (by simp) fun W0=>?_
 exact Wk0
theorem zAC (n:Int) (h:Hp):Ct jV 149 [.int .i64 n] h fun v h'=>v=.bool (decide (0≤n) && decide (n≤2880))∧h'=h:=by
 refine zdn (fun A W=>by simp) Tryz.func149 rfl rfl (by simp) fun W0=>?_
 repeat' first|refine Wa ?_|refine zhF (fun _=>zAB _ _ _ _) ?_|(simp only [go_sem,jq,jj,jy,jv,jk,jx];try rfl)|refine Wb ?_|fail
theorem zAD (n m:Int) (h:Hp):Ct jV 109 [.int .i64 n,.int .i64 m] h fun v h'=>v=.bool (decide (0≤n) && decide (n < m))∧h'=h:=by
 refine zdn (fun A W=>by simp) Tryz.func109 rfl rfl (by simp) fun W0=>?_
 exact Wk0
theorem zAE (s:Sl DPassage):jK s=s.l:=ux _
theorem w64 (n:Int):IntKind.i64.wrap n=(n+9223372036854775808) % 18446744073709551616 - 9223372036854775808:=by rw [IntKind.wrap_i64]
def zAF (l:List POption):Int:=l.foldl (fun t o=>IntKind.i64.wrap (t+o.cost)) 0
theorem zAG (s:Sl DOption):zAF (jK s)=s.l.foldl (fun t o=>IntKind.i64.wrap (t+o.cost)) 0:=by rw [zkz,zAF,List.foldl_map];rfl
theorem zAH {α β:Type} (f:β→α→β) (b:β) {l:List α} {k:Nat} (a:k < l.length):(l.take (k+1)).foldl f b=f ((l.take k).foldl f b) l[k]:=by
 rw [qw a,yp];rfl
theorem zAI (a:Sl DOption) (h:Hp) (d:a.Ok h):Ct jV 132 [a.val] h fun v h'=>v=.int .i64 (zAF (jK a))∧h'=h:=by
 have g:=d.max
 rw [zAG]
 refine zdn (fun A W=>by simp) Tryz.func132 rfl rfl (by simp) fun W0=>?_
 refine Wk ?_
 refine zde (ι:=Nat) (fun k=>⟨[(3,true,.c (.v (.int .i64 ((a.l.take k).foldl (fun t o=>IntKind.i64.wrap (t+o.cost)) 0)))),(6,true,.c (.v a.val)),(7,true,.c (.v (.int .i64 a.l.length))),(8,true,.c (.v (.int .i64 k)))],[],h,0⟩) (fun k=>k≤a.l.length) (fun k=>a.l.length - k) 0 (jC _) ?_ ?_
 ·refine Evs ?_
  exact ⟨rfl,rfl⟩
 intro k i
 refine Wk ?_
 refine zc9 rfl (fun e=>?_) (fun e=>?_)
 ·have b:=zjH e
  repeat' first|refine Wa ?_|(simp only [go_sem,jq,jj,jy,jv,jk,jx,zkZ d b,d.some b,b,jW];try rfl)|refine Wb ?_|fail
  exact ⟨k+1,b,by omega,zjB (by rw [zAH _ _ b]),zjB (zjA b (by omega))⟩
 ·have f:=zjI e
  refine Wk ?_
  rw [qy f]
def zAJ (l:List Int):Nat→Int
 | 0=>-1
 | k+1=>if zAJ l k < 0∨l.getD k 0 < l.getD (zAJ l k).toNat 0 then k else zAJ l k
theorem zAK (l:List Int):∀ k,(k=0∧zAJ l k=-1)∨(0≤zAJ l k∧zAJ l k < k)
 | 0=>.inl ⟨rfl,rfl⟩
 | k+1=>by
  right
  simp only [zAJ]
  rcases zAK l k with ⟨rfl,h⟩|h
  ·rw [h];simp
  ·split <;> omega
def zAL (l:List POption):Int:=zAJ (l.map (·.cost)) l.length
theorem zAM (s:Sl DOption):zAL (jK s)=zAJ (s.l.map (·.cost)) s.l.length:=by rw [zkz,zAL,yj,jH];rfl
theorem zAN {l:List DOption} {k:Nat} (a:k < l.length):(l.map (·.cost)).getD k 0=l[k].cost:=by simp [ja,a]
theorem zAO (a:Sl DOption) (h:Hp) (g:a.Ok h):Ct jV 182 [a.val] h fun v h'=>v=.int .i64 (zAL (jK a))∧h'=h:=by
 have q:=g.max
 rw [zAM]
 refine zdn (fun A W=>by simp) Tryz.func182 rfl rfl (by simp) fun W0=>?_
 refine Wk ?_
 refine zde (ι:=Nat) (fun k=>⟨[(0,true,.c (.v a.val)),(3,true,.c (.v (.int .i64 (zAJ (a.l.map (·.cost)) k)))),(6,true,.c (.v a.val)),(7,true,.c (.v (.int .i64 a.l.length))),(8,true,.c (.v (.int .i64 k)))],[],h,0⟩) (fun k=>k≤a.l.length) (fun k=>a.l.length - k) 0 (jC _) ?_ ?_
 ·refine Evs ?_
  exact ⟨rfl,rfl⟩
 intro k p
 refine Wk ?_
 refine zc9 rfl (fun j=>?_) (fun j=>?_)
 ·have b:=zjH j
  repeat' first|refine Wa ?_|(simp only [go_sem,jq,jj,jy,jv,jk,jx,zkZ g b,g.some b,b,jW];try rfl)|refine Wb ?_|fail
  have d:zAJ (a.l.map (·.cost)) (k+1)=if zAJ (a.l.map (·.cost)) k < 0∨(a.l.map (·.cost)).getD k 0 < (a.l.map (·.cost)).getD (zAJ (a.l.map (·.cost)) k).toNat 0 then (k:Int) else zAJ (a.l.map (·.cost)) k:=rfl
  rcases zAK (a.l.map (·.cost)) k with ⟨h0,m⟩|⟨h0,m⟩
  ·rw [m] at d ⊢
   refine zi8 rfl (by kernel_rfl) ?_
   simp only [go_sem,jq,jj,jy,jv,jk,jx,Int.reduceNeg,Int.reduceLT,decide_true,wj,qW,reduceCtorEq,false_implies,yw]
   refine zc9 rfl (fun f=>?_) (fun f=>?_)
   ·refine Wk ?_
    exact ⟨k+1,b,by omega,zjB (by rw [d];simp),zjB (zjA b (by omega))⟩
   ·cases f
  ·have i:(zAJ (a.l.map (·.cost)) k).toNat < a.l.length:=by omega
   have n:decide (zAJ (a.l.map (·.cost)) k < 0)=false:=decide_eq_false (by omega)
   rw [zAN b,zAN i] at d
   generalize zAJ (a.l.map (·.cost)) k=B at *
   refine zi8 rfl (by kernel_rfl) ?_
   simp only [go_sem,jq,jj,jy,jv,jk,jx,n,h0,i,zm4 g i,g.some i,wq,wa]
   refine ⟨fun _=>by omega,?_⟩
   refine zc9 rfl (fun f=>?_) (fun f=>?_)
   ·refine Wk ?_
    exact ⟨k+1,b,by omega,zjB (by rw [d,if_pos (((jQ _ _).mp f).elim (fun e=>.inl (JE e)) (fun e=>.inr (JE e)))]),zjB (zjA b (by omega))⟩
   ·refine Wk ?_
    exact ⟨k+1,b,by omega,zjB (by rw [d,if_neg (fun e=>e.elim (by omega) (JF (Bool.or_eq_false_iff.1 f).2))]),zjB (zjA b (by omega))⟩
 ·have o:=zjI j
  refine Wk ?_
  rw [wE p o]
def In (n lo hi:Int):Bool:=decide (lo≤n) && decide (n≤hi)
def zAP (n:Int):Bool:=In n 4 2880 && (Jx n 4 == 0)
theorem zAQ (n:Int) (h:Hp):Ct jV 290 [.int .i64 n] h fun v h'=>v=.bool (zAP n)∧h'=h:=by
 refine zdn (fun A W=>by simp) Tryz.func290 rfl rfl (by simp) fun W0=>?_
 repeat' first|refine Wa ?_|refine zhF (fun _=>zAB _ _ _ _) ?_|(simp only [go_sem,jq,jj,jy,jv,jk,jx];try rfl)|refine Wb ?_|fail
 refine ⟨fun _ _=>by decide,?_⟩
 exact Wk0
def zAR (p:DPart):Bool:=In p.amp 0 1000 && zAP p.period && In p.phase 0 (p.period - 1)
theorem zAS (p:DPart) (h:Hp) (b:jD h p):Ct jV 276 [p.v] h fun v h'=>v=.bool (zAR p)∧h'=h:=by
 have a:=w64 (p.period - 1)
 refine zdn (fun A W=>by simp) Tryz.func276 rfl rfl (by simp) fun W0=>?_
 repeat' first|refine Wa ?_|refine zhF (fun _=>zAA _ _ _ _) ?_|(simp only [go_sem,jq,jj,jy,jv,jk,jx];try rfl)|refine Wb ?_|fail
 refine ⟨fun _ _ _ _=>by decide,?_⟩
 repeat' first|refine Wa ?_|refine zhF (fun _=>zAA _ _ _ _) ?_|(simp only [go_sem,jq,jj,jy,jv,jk,jx];try rfl)|refine Wb ?_|fail
 congr 1;rw [yq];simp only [zAR,zAP,In,jJ,jQ,jd,JD,JH,beq_iff_eq,and_assoc]
 rw [a]
 constructor <;> intro h <;> omega
theorem zAT (p:DPart) (h:Hp) (b:jD h p):Ct jV 266 [p.v] h fun v h'=>v=.bool (zAR p)∧h'=h:=by
 have a:=w64 (p.period - 1)
 refine zdn (fun A W=>by simp) Tryz.func266 rfl rfl (by simp) fun W0=>?_
 repeat' first|refine Wa ?_|refine zhF (fun _=>zAB _ _ _ _) ?_|refine zhF (fun _=>zAQ _ _) ?_|(simp only [go_sem,jq,jj,jy,jv,jk,jx];try rfl)|refine Wb ?_|fail
 congr 1;rw [yq];simp only [zAR,zAP,In,jJ,jQ,jd,JD,JH,beq_iff_eq,and_assoc]
 rw [a]
 constructor <;> intro h <;> omega
def zAU (s:DSurge):Bool:=In s.src 0 2880 && In s.low (-500) 500 && In s.high s.low 500
theorem zAV (p:DSurge) (h:Hp):Ct jV 239 [p.v] h fun v h'=>v=.bool (zAU p)∧h'=h:=by
 refine zdn (fun A W=>by simp) Tryz.func239 rfl rfl (by simp) fun W0=>?_
 repeat' first|refine Wa ?_|refine zhF (fun _=>zAA _ _ _ _) ?_|(simp only [go_sem,jq,jj,jy,jv,jk,jx];try rfl)|refine Wb ?_|fail
theorem zAW (p:DSurge) (h:Hp):Ct jV 221 [p.v] h fun v h'=>v=.bool (zAU p)∧h'=h:=by
 refine zdn (fun A W=>by simp) Tryz.func221 rfl rfl (by simp) fun W0=>?_
 repeat' first|refine Wa ?_|refine zhF (fun _=>zAC _ _) ?_|(simp only [go_sem,jq,jj,jy,jv,jk,jx];try rfl)|refine Wb ?_|fail
 congr 1;rw [yq];simp only [zAU,In,jJ,jQ,jd,JD,JH,beq_iff_eq,and_assoc]
 omega
def zAX (s:ByteArray) (k:Nat):Bool:=!(decide (97≤znJ s k) && decide (znJ s k≤122)) && (decide ((k:Int)=0) || decide (znJ s k < 48) || decide (57 < znJ s k))
def zAY (s:ByteArray):Bool:=decide (∀ i,i < s.size→zAX s i=false) && In s.size 1 8
theorem zAZ (s:ByteArray) (h:Hp) (j:zkA s):Ct jV 240 [.string s] h fun v h'=>v=.bool (zAY s)∧h'=h:=by
 have l:s.size≤9223372036854775807:=j
 refine zdn (fun A W=>by simp) Tryz.func240 rfl rfl (by simp) fun W0=>?_
 refine Wk ?_
 refine zde (ι:=Nat) (fun k=>⟨[(0,true,.c (.v (.string s))),(3,true,.c (.v (.int .i64 k)))],[],h,0⟩) (fun k=>k≤s.size∧∀ i,i < k→zAX s i=false) (fun k=>s.size - k) 0 ⟨jC _,fun i b=>absurd b (qE _)⟩ ?_ ?_
 ·refine Evs ?_
  exact Gk
 intro k g
 refine Wk ?_
 refine zc9 rfl (fun d=>?_) (fun d=>?_)
 ·have a:=zjH d
  repeat' first|refine Wa ?_|(simp only [go_sem,jq,jj,jy,jv,jk,jx,a,jW];try rfl)|refine Wb ?_|fail
  refine zc9 rfl (fun f=>?_) (fun f=>?_)
  ·refine Wk ?_
   have:zAY s=false:=by
    rw [zAY,decide_eq_false (fun e=>?_),qc]
    have:=e k a
    rw [show zAX s k=true from f] at this
    cases this
   rw [this]
  ·refine Wk ?_
   refine ⟨k+1,⟨a,fun i b=>?_⟩,by omega,zjB (zjA a (by omega))⟩
   rcases Nat.lt_succ_iff_lt_or_eq.1 b with b|rfl
   ·exact g.2 i b
   ·exact f
 ·have m:=zjI d
  repeat' first|refine Wa ?_|refine zhF (fun _=>zAA _ _ _ _) ?_|(simp only [go_sem,jq,jj,jy,jv,jk,jx];try rfl)|refine Wb ?_|fail
  have:decide (∀ i,i < s.size→zAX s i=false)=true:=JG (fun i b=>g.2 i (by omega))
  rw [zAY,this,qp,In]
theorem zA0 (s:ByteArray) (h:Hp) (l:zkA s):Ct jV 253 [.string s] h fun v h'=>v=.bool (zAY s)∧h'=h:=by
 have m:s.size≤9223372036854775807:=l
 refine zdn (fun A W=>by simp) Tryz.func253 rfl rfl (by simp) fun W0=>?_
 repeat' first|refine Wa ?_|refine zhF (fun _=>zAB _ _ _ _) ?_|(simp only [go_sem,jq,jj,jy,jv,jk,jx];try rfl)|refine Wb ?_|fail
 refine zc9 rfl (fun d=>?_) (fun d=>?_)
 ·refine Wk ?_
  rw [jd] at d
  rw [zAY,In,d,qP]
 rw [jf] at d
 refine Wk ?_
 refine zde (ι:=Nat) (fun k=>⟨[(0,true,.c (.v (.string s))),(3,true,.c (.v (.int .i64 k)))],[],h,0⟩) (fun k=>k≤s.size∧∀ i,i < k→zAX s i=false) (fun k=>s.size - k) 0 ⟨jC _,fun i b=>absurd b (qE _)⟩ ?_ ?_
 ·refine Evs ?_
  exact Gk
 intro k j
 refine Wk ?_
 refine zc9 rfl (fun f=>?_) (fun f=>?_)
 ·have a:=zjH f
  repeat' first|refine Wa ?_|(simp only [go_sem,jq,jj,jy,jv,jk,jx,a,jW];try rfl)|refine Wb ?_|fail
  refine zc9 rfl (fun g=>?_) (fun g=>?_)
  ·refine Wk ?_
   have:zAY s=false:=by
    rw [zAY,decide_eq_false (fun e=>?_),qc]
    have:=e k a
    rw [show zAX s k=true from g] at this
    cases this
   rw [this]
  ·refine Wk ?_
   refine ⟨k+1,⟨a,fun i b=>?_⟩,by omega,zjB (zjA a (by omega))⟩
   rcases Nat.lt_succ_iff_lt_or_eq.1 b with b|rfl
   ·exact j.2 i b
   ·exact g
 ·have n:=zjI f
  refine Wk ?_
  have:decide (∀ i,i < s.size→zAX s i=false)=true:=JG (fun i b=>j.2 i (by omega))
  rw [zAY,this,qp,In,d]
def zA1 {α:Type} (p:α→Bool) (l:List α):Int:=match l.findIdx? p with|some i=>i|none=>-1
theorem zA2 {α:Type} {p:α→Bool} {l:List α} {k:Nat} (a:k < l.length) (h:p l[k]=true) (b:∀ i (d:i < l.length),i < k→p l[i]=false):zA1 p l=k:=by
 have:l.findIdx? p=some k:=by
  rw [List.findIdx?_eq_some_iff_getElem]
  exact ⟨a,h,fun j c=>by rw [b j (by omega) c];exact qa⟩
 rw [zA1,this]
theorem zA3 {α:Type} {p:α→Bool} {l:List α} (b:∀ i (a:i < l.length),p l[i]=false):zA1 p l=-1:=by
 have:l.findIdx? p=none:=by
  rw [List.findIdx?_eq_none_iff]
  intro x c
  obtain ⟨i,a,rfl⟩:=qL c
  exact b i a
 rw [zA1,this]
def zA4 (t:PTide):Bool:=In t.mean (-1000) 1000 && decide (t.parts.length≤4) && t.parts.all zAR
theorem zA5 (s:Sl DPart):jK s=s.l:=ux _
theorem zA6 {α:Type} {p:α→Bool} {l:List α} {k:Nat} (a:k < l.length) (h:p l[k]=false):l.all p=false:=List.all_eq_false.2 ⟨l[k],qd a,by rw [h];exact qa⟩
theorem zA7 {α:Type} {p:α→Bool} {l:List α} {k:Nat} (a:k < l.length) (b:(l.take k).all p=true) (h:p l[k]=true):(l.take (k+1)).all p=true:=by
 rw [qw a,List.all_append,b];simp [h]
theorem zA8 (t:DTide) (h:Hp) (n:jD h t):Ct jV 238 [t.v] h fun v h'=>v=.bool (zA4 (jK t))∧h'=h:=by
 have e:=n.2
 have o:=e.max
 rw [zA4,show (jK t).mean=t.mean from rfl,show (jK t).parts=t.parts.l from zA5 _]
 refine zdn (fun A W=>by simp) Tryz.func238 rfl rfl (by simp) fun W0=>?_
 repeat' first|refine Wa ?_|refine zhF (fun _=>zAA _ _ _ _) ?_|(simp only [go_sem,jq,jj,jy,jv,jk,jx];try rfl)|refine Wb ?_|fail
 refine zc9 rfl (fun b=>?_) (fun b=>?_)
 ·refine Wk ?_
  congr 1
  rw [jQ] at b
  rcases b with b|b
  ·rw [jd] at b
   rw [In,b];rfl
  ·rw [decide_eq_false (by have:=JE b;omega),qP,qc]
 obtain ⟨f,g⟩:=Bool.or_eq_false_iff.1 b
 rw [jf] at f
 have g:=JF g
 refine Wk ?_
 refine zde (ι:=Nat) (fun k=>⟨[(16,true,.c (.v t.parts.val)),(17,true,.c (.v (.int .i64 t.parts.l.length))),(18,true,.c (.v (.int .i64 k)))],[],h,0⟩) (fun k=>k≤t.parts.l.length∧(t.parts.l.take k).all zAR=true) (fun k=>t.parts.l.length - k) 0 ⟨jC _,rfl⟩ ?_ ?_
 ·refine Evs ?_
  exact Gk
 intro k j
 refine Wk ?_
 refine zc9 rfl (fun i=>?_) (fun i=>?_)
 ·have a:=zjH i
  repeat' first|refine Wa ?_|refine zhF (fun _=>zAS _ _ (e.el a)) ?_|(simp only [go_sem,jq,jj,jy,jv,jk,jx,zk4 e a,e.some a,a,jW];try rfl)|refine Wb ?_|fail
  refine zc9 rfl (fun d=>?_) (fun d=>?_)
  ·rw [jd] at d
   refine Wk ?_
   rw [zA6 a d,qP]
  ·rw [jf] at d
   refine Wk ?_
   exact ⟨k+1,⟨a,zA7 a j.2 d⟩,by omega,zjB (zjA a (by omega))⟩
 ·have m:=zjI i
  refine Wk ?_
  have:=j.2
  rw [qy m] at this
  rw [this,In,f,JG (show t.parts.l.length≤4 by omega)];rfl
theorem zA9 (t:DTide) (h:Hp) (n:jD h t):Ct jV 220 [t.v] h fun v h'=>v=.bool (zA4 (jK t))∧h'=h:=by
 have e:=n.2
 have o:=e.max
 rw [zA4,show (jK t).mean=t.mean from rfl,show (jK t).parts=t.parts.l from zA5 _]
 refine zdn (fun A W=>by simp) Tryz.func220 rfl rfl (by simp) fun W0=>?_
 repeat' first|refine Wa ?_|refine zhF (fun _=>zAB _ _ _ _) ?_|(simp only [go_sem,jq,jj,jy,jv,jk,jx];try rfl)|refine Wb ?_|fail
 refine zc9 rfl (fun b=>?_) (fun b=>?_)
 ·refine Wk ?_
  congr 1
  rw [jQ] at b
  rcases b with b|b
  ·rw [jd] at b
   rw [In,b];rfl
  ·rw [decide_eq_false (by have:=JE b;omega),qP,qc]
 obtain ⟨f,g⟩:=Bool.or_eq_false_iff.1 b
 rw [jf] at f
 have g:=JF g
 refine Wk ?_
 refine zde (ι:=Nat) (fun k=>⟨[(16,true,.c (.v t.parts.val)),(17,true,.c (.v (.int .i64 t.parts.l.length))),(18,true,.c (.v (.int .i64 k)))],[],h,0⟩) (fun k=>k≤t.parts.l.length∧(t.parts.l.take k).all zAR=true) (fun k=>t.parts.l.length - k) 0 ⟨jC _,rfl⟩ ?_ ?_
 ·refine Evs ?_
  exact Gk
 intro k j
 refine Wk ?_
 refine zc9 rfl (fun i=>?_) (fun i=>?_)
 ·have a:=zjH i
  repeat' first|refine Wa ?_|refine zhF (fun _=>zAT _ _ (e.el a)) ?_|(simp only [go_sem,jq,jj,jy,jv,jk,jx,zk4 e a,e.some a,a,jW];try rfl)|refine Wb ?_|fail
  refine zc9 rfl (fun d=>?_) (fun d=>?_)
  ·rw [jd] at d
   refine Wk ?_
   rw [zA6 a d,qP]
  ·rw [jf] at d
   refine Wk ?_
   exact ⟨k+1,⟨a,zA7 a j.2 d⟩,by omega,zjB (zjA a (by omega))⟩
 ·have m:=zjI i
  refine Wk ?_
  have:=j.2
  rw [qy m] at this
  rw [this,In,f,JG (show t.parts.l.length≤4 by omega)];rfl
def dS:DSurge:=⟨0,0,0⟩
def zBa (l:List DSurge) (i:Nat):Bool:=zAU (l.getD i dS) && !(decide (0 < (i:Int)) && decide ((l.getD i dS).src≤(l.getD (i - 1) dS).src))
def zBb (f:PForecast):Bool:=zA4 f.tide && In (f.surges.length:Int) 1 6 && decide ((f.surges.getD 0 dS).src=0) && decide (∀ i,i < f.surges.length→zBa f.surges i=true)
theorem zBc (s:Sl DSurge):jK s=s.l:=ux _
theorem sget {l:List DSurge} {i:Nat} (a:i < l.length):l.getD i dS=l[i]:=by simp [ja,a]
theorem zBd (f:DForecast) (h:Hp) (w:jD h f):Ct jV 170 [f.v] h fun v h'=>v=.bool (zBb (jK f))∧h'=h:=by
 have g:=w.2
 have O:=g.max
 rw [zBb,show (jK f).tide=jK f.tide from rfl,show (jK f).surges=f.surges.l from zBc _]
 refine zdn (fun A W=>by simp) Tryz.func170 rfl rfl (by simp) fun W0=>?_
 by_cases h0:0 < f.surges.l.length
 ·have z:=g.some h0
  have D:(0 < (f.surges.l.length:Int))=True:=eq_true (by omega)
  have s:=(zm5 g h0).1
  simp only [go_sem,jA] at s
  repeat' first|refine Wa ?_|refine zhF (fun _=>zA8 _ _ w.1) ?_|refine zhF (fun _=>zAA _ _ _ _) ?_|(simp only [go_sem,jq,jj,jy,jv,jk,jx,D,z,s,je,jA,qF,Jg,JA,JB];try rfl)|refine Wb ?_|fail
  refine zc9 rfl (fun d=>?_) (fun d=>?_)
  ·refine Wk ?_
   congr 1
   simp only [jQ,jd] at d
   rcases d with (d|d)|d
   ·rw [d];rfl
   ·rw [In,d,qP];rfl
   ·rw [sget h0,decide_eq_false (by simpa using d),qP,qc]
  simp only [jp,jf] at d
  obtain ⟨⟨F,G⟩,r⟩:=d
  have r:=zjE r
  have x:(zA4 (jK f.tide) && In (f.surges.l.length:Int) 1 6 && decide ((f.surges.l.getD 0 dS).src=0))=true:=by rw [F,In,G,sget h0,JG r];rfl
  rw [x,qp]
  refine Wk ?_
  refine zde (ι:=Nat) (fun k=>⟨[(1,true,.c (.p 0 0)),(25,true,.c (.v f.surges.val)),(26,true,.c (.v (.int .i64 f.surges.l.length))),(27,true,.c (.v (.int .i64 k)))],[(0,.box 53 [.v (.int .i64 f.tide.mean),.v f.tide.parts.val,.v f.surges.val])],h,1⟩) (fun k=>k≤f.surges.l.length∧∀ i,i < k→zBa f.surges.l i=true) (fun k=>f.surges.l.length - k) 0 ⟨jC _,fun i q=>absurd q (qE _)⟩ ?_ ?_
  ·refine Evs ?_
   exact Gk
  intro k H
  refine Wk ?_
  refine zc9 rfl (fun y=>?_) (fun y=>?_)
  ·have a:=zjH y
   have fin:∀ b:Bool,b=zBa f.surges.l k→(b=false→decide (∀ i,i < f.surges.l.length→zBa f.surges.l i=true)=false)∧(b=true→∀ i,i < k+1→zBa f.surges.l i=true):=by
    rintro b rfl
    refine ⟨fun e=>decide_eq_false fun J=>(by rw [J k a] at e;cases e),fun e i q=>?_⟩
    rcases Nat.lt_succ_iff_lt_or_eq.1 q with q|rfl
    ·exact H.2 i q
    ·exact e
   have t:=sget a
   rcases we k with K|K
   ·have j:(0 < (k:Int))=False:=eq_false (by omega)
    repeat' first|refine Wa ?_|(simp only [go_sem,jq,jj,jy,jv,jk,jx,zk9 g a,g.some a,a,jW];try rfl)|refine Wb ?_|fail
    refine ziV rfl ?_
    refine zi3 [0] rfl (by kernel_rfl) ?_
    refine Evs ?_
    refine ziT [1] (by kernel_rfl) (by kernel_rfl) ?_
    refine Evs ?_
    refine zhF (fun _=>zAV _ _) ?_
    refine Evs ?_
    refine zi3 [2,3,4,5,6,7,8,9,10,11,12,13,14,15,16,17,18] rfl (by kernel_rfl) ?_
    simp only [go_sem,jq,jj,jy,jv,jk,jx,j,decide_false,qP,qc,wC,qW,false_implies,Jg,JA,reduceCtorEq]
    refine ziU (by kernel_rfl) ?_
    refine Wk ?_
    refine zc9 rfl (fun n=>?_) (fun n=>?_)
    ·refine Wk ?_
     rw [(fin (zAU f.surges.l[k]) (by rw [zBa,t];simp only [j,decide_false,qc,wq,wJ])).1 (by simpa using n)]
    ·refine Wk ?_
     exact ⟨k+1,⟨a,(fin (zAU f.surges.l[k]) (by rw [zBa,t];simp only [j,decide_false,qc,wq,wJ])).2 (by simpa using n)⟩,by omega,zjB (zjA a (by omega))⟩
   ·have j:(0 < (k:Int))=True:=eq_true (by omega)
    have m:k - 1 < f.surges.l.length:=by omega
    have M:IntKind.i64.wrap ((k:Int) - 1)=((k - 1:Nat):Int):=by rw [zjz (by omega)];omega
    repeat' first|refine Wa ?_|(simp only [go_sem,jq,jj,jy,jv,jk,jx,zk9 g a,g.some a,a,jW];try rfl)|refine Wb ?_|fail
    refine ziV rfl ?_
    refine zi3 [0] rfl (by kernel_rfl) ?_
    refine Evs ?_
    refine ziT [1] (by kernel_rfl) (by kernel_rfl) ?_
    refine Evs ?_
    refine zhF (fun _=>zAV _ _) ?_
    refine Evs ?_
    refine zi3 [2,3,4,5,6,7,8,9,10,11,12,13,14,15,16,17,18] rfl (by kernel_rfl) ?_
    simp only [go_sem,jq,jj,jy,jv,jk,jx,j,M,zm5 g m,g.some m,m,jW,decide_true,JB,imp_self,Jg,JA,qp,wJ]
    refine ziU (by kernel_rfl) ?_
    refine Wk ?_
    refine zc9 rfl (fun n=>?_) (fun n=>?_)
    ·refine Wk ?_
     rw [(fin _ rfl).1 ?_]
     rw [zBa,sget a,sget m]
     rcases (jQ _ _).mp n with o|o
     ·rw [jd] at o
      rw [o];rfl
     ·rw [JG (show 0 < (k:Int) by omega),JG (JE o),uk,wj,qP]
    ·refine Wk ?_
     refine ⟨k+1,⟨a,(fin _ rfl).2 ?_⟩,by omega,zjB (zjA a (by omega))⟩
     rw [zBa,sget a,sget m]
     obtain ⟨o,h2⟩:=Bool.or_eq_false_iff.1 n
     rw [jf] at o
     rw [o,decide_eq_false (JF h2),qP];rfl
  ·have N:=zjI y
   refine Wk ?_
   exact zjG (fun i q=>H.2 i (by omega))
 ·have u:(1≤(f.surges.l.length:Int))=False:=eq_false (by omega)
  repeat' first|refine Wa ?_|refine zhF (fun _=>zA8 _ _ w.1) ?_|refine zhF (fun _=>zAA _ _ _ _) ?_|(simp only [go_sem,jq,jj,jy,jv,jk,jx,u,decide_false,qc,wq,uw,reduceCtorEq,false_implies,JA];try rfl)|refine Wb ?_|fail
  refine zc9 rfl (fun d=>?_) (fun d=>?_)
  ·refine Wk ?_
   congr 1
   simp only [In,u,decide_false,qc,qP]
  ·simp at d
theorem zBe (f:DForecast) (h:Hp) (w:jD h f):Ct jV 148 [f.v] h fun v h'=>v=.bool (zBb (jK f))∧h'=h:=by
 have g:=w.2
 have O:=g.max
 rw [zBb,show (jK f).tide=jK f.tide from rfl,show (jK f).surges=f.surges.l from zBc _]
 refine zdn (fun A W=>by simp) Tryz.func148 rfl rfl (by simp) fun W0=>?_
 by_cases h0:0 < f.surges.l.length
 ·have z:=g.some h0
  have D:(0 < (f.surges.l.length:Int))=True:=eq_true (by omega)
  have s:=(zm5 g h0).1
  simp only [go_sem,jA] at s
  repeat' first|refine Wa ?_|refine zhF (fun _=>zA9 _ _ w.1) ?_|refine zhF (fun _=>zAB _ _ _ _) ?_|(simp only [go_sem,jq,jj,jy,jv,jk,jx,D,z,s,je,jA,qF,Jg,JA,JB];try rfl)|refine Wb ?_|fail
  refine zc9 rfl (fun d=>?_) (fun d=>?_)
  ·refine Wk ?_
   congr 1
   simp only [jQ,jd] at d
   rcases d with (d|d)|d
   ·rw [d];rfl
   ·rw [In,d,qP];rfl
   ·rw [sget h0,decide_eq_false (by simpa using d),qP,qc]
  simp only [jp,jf] at d
  obtain ⟨⟨F,G⟩,r⟩:=d
  have r:=zjE r
  have x:(zA4 (jK f.tide) && In (f.surges.l.length:Int) 1 6 && decide ((f.surges.l.getD 0 dS).src=0))=true:=by rw [F,In,G,sget h0,JG r];rfl
  rw [x,qp]
  refine Wk ?_
  refine zde (ι:=Nat) (fun k=>⟨[(1,true,.c (.p 0 0)),(25,true,.c (.v f.surges.val)),(26,true,.c (.v (.int .i64 f.surges.l.length))),(27,true,.c (.v (.int .i64 k)))],[(0,.box 53 [.v (.int .i64 f.tide.mean),.v f.tide.parts.val,.v f.surges.val])],h,1⟩) (fun k=>k≤f.surges.l.length∧∀ i,i < k→zBa f.surges.l i=true) (fun k=>f.surges.l.length - k) 0 ⟨jC _,fun i q=>absurd q (qE _)⟩ ?_ ?_
  ·refine Evs ?_
   exact Gk
  intro k H
  refine Wk ?_
  refine zc9 rfl (fun y=>?_) (fun y=>?_)
  ·have a:=zjH y
   have fin:∀ b:Bool,b=zBa f.surges.l k→(b=false→decide (∀ i,i < f.surges.l.length→zBa f.surges.l i=true)=false)∧(b=true→∀ i,i < k+1→zBa f.surges.l i=true):=by
    rintro b rfl
    refine ⟨fun e=>decide_eq_false fun J=>(by rw [J k a] at e;cases e),fun e i q=>?_⟩
    rcases Nat.lt_succ_iff_lt_or_eq.1 q with q|rfl
    ·exact H.2 i q
    ·exact e
   have t:=sget a
   rcases we k with K|K
   ·have j:(0 < (k:Int))=False:=eq_false (by omega)
    repeat' first|refine Wa ?_|(simp only [go_sem,jq,jj,jy,jv,jk,jx,zk9 g a,g.some a,a,jW];try rfl)|refine Wb ?_|fail
    refine ziV rfl ?_
    refine zi3 [0] rfl (by kernel_rfl) ?_
    refine Evs ?_
    refine ziT [1] (by kernel_rfl) (by kernel_rfl) ?_
    refine Evs ?_
    refine zhF (fun _=>zAW _ _) ?_
    refine Evs ?_
    refine zi3 [2,3,4,5,6,7,8,9,10,11,12,13,14,15,16,17,18] rfl (by kernel_rfl) ?_
    simp only [go_sem,jq,jj,jy,jv,jk,jx,j,decide_false,qP,qc,wC,qW,false_implies,Jg,JA,reduceCtorEq]
    refine ziU (by kernel_rfl) ?_
    refine Wk ?_
    refine zc9 rfl (fun n=>?_) (fun n=>?_)
    ·refine Wk ?_
     rw [(fin (zAU f.surges.l[k]) (by rw [zBa,t];simp only [j,decide_false,qc,wq,wJ])).1 (by simpa using n)]
    ·refine Wk ?_
     exact ⟨k+1,⟨a,(fin (zAU f.surges.l[k]) (by rw [zBa,t];simp only [j,decide_false,qc,wq,wJ])).2 (by simpa using n)⟩,by omega,zjB (zjA a (by omega))⟩
   ·have j:(0 < (k:Int))=True:=eq_true (by omega)
    have m:k - 1 < f.surges.l.length:=by omega
    have M:IntKind.i64.wrap ((k:Int) - 1)=((k - 1:Nat):Int):=by rw [zjz (by omega)];omega
    repeat' first|refine Wa ?_|(simp only [go_sem,jq,jj,jy,jv,jk,jx,zk9 g a,g.some a,a,jW];try rfl)|refine Wb ?_|fail
    refine ziV rfl ?_
    refine zi3 [0] rfl (by kernel_rfl) ?_
    refine Evs ?_
    refine ziT [1] (by kernel_rfl) (by kernel_rfl) ?_
    refine Evs ?_
    refine zhF (fun _=>zAW _ _) ?_
    refine Evs ?_
    refine zi3 [2,3,4,5,6,7,8,9,10,11,12,13,14,15,16,17,18] rfl (by kernel_rfl) ?_
    simp only [go_sem,jq,jj,jy,jv,jk,jx,j,M,zm5 g m,g.some m,m,jW,decide_true,JB,imp_self,Jg,JA,qp,wJ]
    refine ziU (by kernel_rfl) ?_
    refine Wk ?_
    refine zc9 rfl (fun n=>?_) (fun n=>?_)
    ·refine Wk ?_
     rw [(fin _ rfl).1 ?_]
     rw [zBa,sget a,sget m]
     rcases (jQ _ _).mp n with o|o
     ·rw [jd] at o
      rw [o];rfl
     ·rw [JG (show 0 < (k:Int) by omega),JG (JE o),uk,wj,qP]
    ·refine Wk ?_
     refine ⟨k+1,⟨a,(fin _ rfl).2 ?_⟩,by omega,zjB (zjA a (by omega))⟩
     rw [zBa,sget a,sget m]
     obtain ⟨o,h2⟩:=Bool.or_eq_false_iff.1 n
     rw [jf] at o
     rw [o,decide_eq_false (JF h2),qP];rfl
  ·have N:=zjI y
   refine Wk ?_
   exact zjG (fun i q=>H.2 i (by omega))
 ·have u:(1≤(f.surges.l.length:Int))=False:=eq_false (by omega)
  repeat' first|refine Wa ?_|refine zhF (fun _=>zA9 _ _ w.1) ?_|refine zhF (fun _=>zAB _ _ _ _) ?_|(simp only [go_sem,jq,jj,jy,jv,jk,jx,u,decide_false,qc,wq,uw,reduceCtorEq,false_implies,JA];try rfl)|refine Wb ?_|fail
  refine zc9 rfl (fun d=>?_) (fun d=>?_)
  ·refine Wk ?_
   congr 1
   simp only [In,u,decide_false,qc,qP]
  ·simp at d
end Go.Proofs.YtbkaaakphpbmiaaGreat
