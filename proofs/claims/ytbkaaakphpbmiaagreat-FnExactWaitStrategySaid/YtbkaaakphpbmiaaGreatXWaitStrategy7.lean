/- What functions of the given program compute, as contracts. -/
import Derived.Test.YtbkaaakphpbmiaaGreatSWaitStrategyx3
import Derived.Test.YtbkaaakphpbmiaaGreatXWaitStrategy6
set_option linter.unusedVariables false
set_option linter.unusedSimpArgs false
set_option maxRecDepth 4000
open Nat renaming reduceAdd → jq, reduceMul → jj, reduceBEq → jy, reduceLeDiff → jv, reduceLT → jk, reduceEqDiff → jx, zero_mul → jA, zero_le → jC, sub_zero → qQ, le_refl → qV, not_lt_zero → qE, le_trans → wK, eq_zero_or_pos → we, le_antisymm → wE, lt_succ_self → Jc
open Bool renaming or_eq_false_iff → jp, or_eq_true → jQ, and_eq_true → jJ, not_eq_true' → jd, not_eq_false' → jf, true_and → qp, false_eq_true → qW, and_false → qP, false_ne_true → qa, false_and → qc, and_eq_false_iff → qA, not_false → wq, not_true → wj, and_true → wJ, false_or → wa, or_false → wC, eq_iff_iff → yq, true_or → yw, true_eq_false → uy, and_self → uk
open Int renaming toNat_natCast → jW, natCast_nonneg → jY, toNat_zero → je, le_refl → qF, tdiv → yY, tmod → Jx
open Go.SL.Con renaming con → jK
open List renaming length_append → jP, getD_eq_getElem?_getD → ja, length_singleton → jg, flatMap_append → jF, length_map → jH, take_succ_eq_append_getElem → qw, take_of_length_le → qy, getElem?_eq_getElem → qX, getElem_mem → qd, map_append → qB, getElem_of_mem → qL, length_take → ww, mem_append_left → yy, foldl_append → yp, map_id → ux, length_filter_le → up, take → Jq
open Go.SL.Enc renaming ok → jD, enc → qx
open Go.SL.Hp renaming le_refl → wW
open Go.Proofs.Tryz renaming prog → jV
namespace Go.Proofs.YtbkaaakphpbmiaaGreat
open Go Go.SL
set_option maxHeartbeats 1000000
def dP:DPoint:=⟨ByteArray.empty,false⟩
def dG:DSegment:=⟨0,0,0,0,false⟩
theorem pget {l:List DPoint} {i:Nat} (a:i < l.length):l.getD i dP=l[i]:=by simp [ja,a]
theorem gget {l:List DSegment} {i:Nat} (a:i < l.length):l.getD i dG=l[i]:=by simp [ja,a]
def zBf (l:List DPoint) (n:ByteArray):Int:=zA1 (fun p=>decide (p.name=n)) l
theorem zBg (s:Sl DPoint):jK s=s.l:=ux _
theorem zBh (s:Sl DSegment):jK s=s.l:=ux _
theorem zBi (s:Sl DShip):jK s=s.l:=ux _
def zBj (s:DSegment) (a b:Int):Bool:=decide (s.a=a) && decide (s.b=b) || decide (s.a=b) && decide (s.b=a)
theorem zBk (s:DSegment) (a b:Int) (h:Hp):Ct jV 249 [s.v,.int .i64 a,.int .i64 b] h fun v h'=>v=.bool (zBj s a b)∧h'=h:=by
 refine zdn (fun A W=>by simp) Tryz.func249 rfl rfl (by simp) fun W0=>?_
 exact Wk0
theorem zBl (s:DSegment) (a b:Int) (h:Hp):Ct jV 255 [s.v,.int .i64 a,.int .i64 b] h fun v h'=>v=.bool (zBj s a b)∧h'=h:=by
 refine zdn (fun A W=>by simp) Tryz.func255 rfl rfl (by simp) fun W0=>?_
 exact Wk0
def ptOk (l:List DPoint) (i:Nat):Bool:=zAY (l.getD i dP).name && decide (zBf l (l.getD i dP).name=(i:Int))
def zBm (n:Nat) (s:DSegment):Bool:=decide (0≤s.a∧s.a < n∧0≤s.b∧s.b < n∧s.a ≠ s.b∧0≤s.depth∧s.depth≤3000∧1≤s.minutes∧s.minutes≤240)
def zBn (l:List DSegment) (i:Nat):Bool:=decide (∀ j,j < i→zBj (l.getD j dG) (l.getD i dG).a (l.getD i dG).b=false)
def zBo (n:Nat) (l:List DSegment) (i:Nat):Bool:=zBm n (l.getD i dG) && zBn l i
def zBp (c:PChart):Bool:=decide (c.points.length≤8) && decide (c.segments.length≤10) && decide (∀ i,i < c.points.length→ptOk c.points i=true) && decide (∀ i,i < c.segments.length→zBo c.points.length c.segments i=true)
theorem zBq (c:DChart):zBp (jK c)=(decide (c.points.l.length≤8) && decide (c.segments.l.length≤10) && decide (∀ i,i < c.points.l.length→ptOk c.points.l i=true) && decide (∀ i,i < c.segments.l.length→zBo c.points.l.length c.segments.l i=true)):=by
 rw [zBp,show (jK c).points=c.points.l from zBg _,show (jK c).segments=c.segments.l from zBh _]
theorem zBr {p:Nat→Bool} {n k:Nat} (a:k < n) (h:p k=false):decide (∀ i,i < n→p i=true)=false:=decide_eq_false fun b=>by rw [b k a] at h;cases h
theorem zBs {p:Nat→Bool} {k:Nat} (b:∀ i,i < k→p i=true) (h:p k=true):∀ i,i < k+1→p i=true:=fun i a=>by
 rcases Nat.lt_succ_iff_lt_or_eq.1 a with a|rfl
 ·exact b i a
 ·exact h
theorem zBt {p:Nat→Bool} {n k:Nat} (b:n≤k) (a:∀ i,i < k→p i=true):decide (∀ i,i < n→p i=true)=true:=JG fun i c=>a i (by omega)
theorem zBu {p:Nat→Bool}:∀ i,i < 0→p i=true:=fun i a=>absurd a (qE _)
theorem zBv (c:DChart) (n:ByteArray) (h:Hp) (m:jD h c):Ct jV 248 [c.v,.string n] h fun v h'=>v=.int .i64 (zBf c.points.l n)∧h'=h:=by
 have e:=m.1
 have p:=e.max
 refine zdn (fun A W=>by simp) Tryz.func248 rfl rfl (by simp) fun W0=>?_
 refine Wk ?_
 refine zde (ι:=Nat) (fun k=>⟨[(1,true,.c (.v (.string n))),(8,true,.c (.v c.points.val)),(9,true,.c (.v (.int .i64 c.points.l.length))),(10,true,.c (.v (.int .i64 k)))],[],h,1⟩) (fun k=>k≤c.points.l.length∧∀ i (b:i < c.points.l.length),i < k→(decide (c.points.l[i].name=n))=false) (fun k=>c.points.l.length - k) 0 ⟨jC _,fun i _ b=>absurd b (qE _)⟩ ?_ ?_
 ·refine Evs ?_
  exact Gk
 intro k f
 refine Wk ?_
 refine zc9 rfl (fun g=>?_) (fun g=>?_)
 ·have a:=zjH g
  repeat' first|refine Wa ?_|(simp (maxSteps:=2000000) only [go_sem,jq,jj,jy,jv,jk,jx,zlf e a,e.some a,a,jW];try rfl)|refine Wb ?_|fail
  refine zc9 rfl (fun j=>?_) (fun j=>?_)
  ·refine Wk ?_
   rw [zBf,zA2 a j f.2]
  ·refine Wk ?_
   refine ⟨k+1,⟨a,fun i b d=>?_⟩,by omega,zjB (zjA a (by omega))⟩
   rcases Nat.lt_succ_iff_lt_or_eq.1 d with d|rfl
   ·exact f.2 i b d
   ·exact j
 ·have o:=zjI g
  refine Wk ?_
  rw [zBf,zA3 (fun i b=>f.2 i b (by omega))]
theorem zBw (c:DChart) (n:ByteArray) (h:Hp) (m:jD h c):Ct jV 254 [c.v,.string n] h fun v h'=>v=.int .i64 (zBf c.points.l n)∧h'=h:=by
 have e:=m.1
 have p:=e.max
 refine zdn (fun A W=>by simp) Tryz.func254 rfl rfl (by simp) fun W0=>?_
 refine Wk ?_
 refine zde (ι:=Nat) (fun k=>⟨[(1,true,.c (.v (.string n))),(8,true,.c (.v c.points.val)),(9,true,.c (.v (.int .i64 c.points.l.length))),(10,true,.c (.v (.int .i64 k)))],[],h,1⟩) (fun k=>k≤c.points.l.length∧∀ i (b:i < c.points.l.length),i < k→(decide (c.points.l[i].name=n))=false) (fun k=>c.points.l.length - k) 0 ⟨jC _,fun i _ b=>absurd b (qE _)⟩ ?_ ?_
 ·refine Evs ?_
  exact Gk
 intro k f
 refine Wk ?_
 refine zc9 rfl (fun g=>?_) (fun g=>?_)
 ·have a:=zjH g
  repeat' first|refine Wa ?_|(simp (maxSteps:=2000000) only [go_sem,jq,jj,jy,jv,jk,jx,zlf e a,e.some a,a,jW];try rfl)|refine Wb ?_|fail
  refine zc9 rfl (fun j=>?_) (fun j=>?_)
  ·refine Wk ?_
   rw [zBf,zA2 a j f.2]
  ·refine Wk ?_
   refine ⟨k+1,⟨a,fun i b d=>?_⟩,by omega,zjB (zjA a (by omega))⟩
   rcases Nat.lt_succ_iff_lt_or_eq.1 d with d|rfl
   ·exact f.2 i b d
   ·exact j
 ·have o:=zjI g
  refine Wk ?_
  rw [zBf,zA3 (fun i b=>f.2 i b (by omega))]
theorem zBx (c:DChart) (h:Hp) (H:jD h c):Ct jV 184 [c.v] h fun v h'=>v=.bool (zBp (jK c))∧h'=h:=by
 have y:=H.1
 have s:=H.2
 have Y:=y.max
 have X:=s.max
 have M:IntKind.i64.wrap ((c.points.l.length:Int) - 1)=(c.points.l.length:Int) - 1:=zjz (by omega)
 rw [zBq]
 refine zdn (fun A W=>by simp) Tryz.func184 rfl rfl (by simp) fun W0=>?_
 refine Wk ?_
 refine zc9 rfl (fun t=>?_) (fun t=>?_)
 ·refine Wk ?_
  congr 1
  rcases (jQ _ _).mp t with f|f
  ·rw [decide_eq_false (by have:=JE f;omega)];rfl
  ·rw [decide_eq_false (p:=c.segments.l.length≤10) (by have:=JE f;omega),qP];rfl
 obtain ⟨z,D⟩:=Bool.or_eq_false_iff.1 t
 have z:=JF z
 have D:=JF D
 rw [JG (show c.points.l.length≤8 by omega),JG (show c.segments.l.length≤10 by omega),uk,qp]
 refine Wk ?_
 refine zde (ι:=Nat) (fun k=>⟨[(1,true,.c (.p 0 0)),(20,true,.c (.v c.points.val)),(21,true,.c (.v (.int .i64 c.points.l.length))),(22,true,.c (.v (.int .i64 k)))],[(0,.box 57 [.v c.points.val,.v c.segments.val])],h,1⟩) (fun k=>k≤c.points.l.length∧∀ i,i < k→ptOk c.points.l i=true) (fun k=>c.points.l.length - k) 0 ⟨jC _,zBu⟩ ?_ ?_
 ·refine Evs ?_
  exact Gk
 ·intro k n
  refine Wk ?_
  refine zc9 rfl (fun o=>?_) (fun o=>?_)
  ·have d:=zjH o
   repeat' first|refine Wa ?_|refine zhF (fun _=>zAZ _ _ (y.el d)) ?_|refine zhF (fun _=>zBv c _ _ H) ?_|(simp (maxSteps:=2000000) only [go_sem,jq,jj,jy,jv,jk,jx,zlf y d,y.some d,d,jW];try rfl)|refine Wb ?_|fail
   refine zc9 rfl (fun q=>?_) (fun q=>?_)
   ·refine Wk ?_
    rw [zBr d ?_];rfl
    rw [ptOk,pget d]
    rcases (jQ _ _).mp q with f|f
    ·rw [jd] at f;rw [f];rfl
    ·rw [decide_eq_false (zjD f),qP]
   ·obtain ⟨f,h2⟩:=Bool.or_eq_false_iff.1 q
    rw [jf] at f
    refine Wk ?_
    exact ⟨k+1,⟨d,zBs n.2 (by rw [ptOk,pget d,f,JG (zjE h2)];rfl)⟩,by omega,zjB (zjA d (by omega))⟩
  ·have u:=zjI o
   rw [zBt u n.2,qp]
   refine Wk ?_
   refine zde (ι:=Nat) (fun k=>⟨[(1,true,.c (.p 0 0)),(41,true,.c (.v c.segments.val)),(42,true,.c (.v (.int .i64 c.segments.l.length))),(43,true,.c (.v (.int .i64 k)))],[(0,.box 57 [.v c.points.val,.v c.segments.val])],h,1⟩) (fun k=>k≤c.segments.l.length∧∀ i,i < k→zBo c.points.l.length c.segments.l i=true) (fun k=>c.segments.l.length - k) 0 ⟨jC _,zBu⟩ ?_ ?_
   ·refine Evs ?_
    exact Gk
   intro k n
   refine Wk ?_
   refine zc9 rfl (fun o=>?_) (fun o=>?_)
   ·have d:=zjH o
    repeat' first|refine Wa ?_|refine zhF (fun _=>zAA _ _ _ _) ?_|refine zhF (fun _=>zAA _ _ _ _) ?_|(simp (maxSteps:=2000000) only [go_sem,jq,jj,jy,jv,jk,jx,zlh s d,s.some d,d,jW,M];try rfl)|refine Wb ?_|fail
    refine zc9 rfl (fun q=>?_) (fun q=>?_)
    ·refine Wk ?_
     rw [zBr d ?_]
     rw [zBo,gget d,zBm,decide_eq_false ?_,qc]
     simp only [jQ,jd,qA,JH,beq_iff_eq] at q
     omega
    ·have F:zBm c.points.l.length c.segments.l[k]=true:=by
      simp only [jp,jf,jJ,JD,beq_eq_false_iff_ne] at q
      rw [zBm]
      refine JG ?_
      omega
     have G:=Sl.to_ok s k
     have N:=Sl.to_len n.1
     have O:=s.1
     refine Wk ?_
     refine ⟨by omega,?_⟩
     simp only [je,qQ,jA,zza,zzb,ite_self]
     rw [zzc n.1]
     refine Wk ?_
     refine zde (ι:=Nat) (fun j=>⟨[(1,true,.c (.p 0 0)),(6,true,.c (.p 1 0)),(41,true,.c (.v c.segments.val)),(42,true,.c (.v (.int .i64 c.segments.l.length))),(43,true,.c (.v (.int .i64 k))),(88,true,.c (.v (c.segments.to k).val)),(89,true,.c (.v (.int .i64 k))),(90,true,.c (.v (.int .i64 j)))],[(0,.box 57 [.v c.points.val,.v c.segments.val]),(1,.box 230 [.v (.int .i64 c.segments.l[k].a),.v (.int .i64 c.segments.l[k].b),.v (.int .i64 c.segments.l[k].depth),.v (.int .i64 c.segments.l[k].minutes),.v (.bool c.segments.l[k].meet)])],h,2⟩) (fun j=>j≤k∧∀ i,i < j→zBj (c.segments.l.getD i dG) c.segments.l[k].a c.segments.l[k].b=false) (fun j=>k - j) 0 ⟨jC _,fun i r=>absurd r (qE _)⟩ ?_ ?_
     ·refine Evs ?_
      exact Gk
     intro j J
     refine Wk ?_
     refine zc9 rfl (fun w=>?_) (fun w=>?_)
     ·have g:=zjH w
      have e:j < (c.segments.to k).l.length:=by omega
      have m:j < c.segments.l.length:=by omega
      have K:=Sl.to_get e m
      repeat' first|refine Wa ?_|refine zhF (fun _=>zBk _ _ _ _) ?_|(simp (maxSteps:=2000000) only [go_sem,jq,jj,jy,jv,jk,jx,zlh G e,G.some e,e,g,jW,K];try rfl)|refine Wb ?_|fail
      refine zc9 rfl (fun x=>?_) (fun x=>?_)
      ·refine Wk ?_
       rw [zBr d ?_]
       rw [zBo,gget d,F,qp,zBn]
       refine decide_eq_false fun Q=>?_
       have:=Q j g
       rw [gget m,gget d,x] at this
       cases this
      ·refine Wk ?_
       exact ⟨j+1,⟨g,fun i r=>by
        rcases Nat.lt_succ_iff_lt_or_eq.1 r with r|rfl
        ·exact J.2 i r
        ·rw [gget m];exact x⟩,by omega,zjB (zjA g (by omega))⟩
     ·have R:=zjI w
      refine Wk ?_
      refine ⟨k+1,⟨d,zBs n.2 ?_⟩,by omega,zjB (zjA d (by omega))⟩
      rw [zBo,gget d,F,qp,zBn]
      refine JG fun i r=>?_
      rw [gget d];exact J.2 i (by omega)
   ·have u:=zjI o
    refine Wk ?_
    rw [zBt u n.2]
theorem zBy (c:DChart) (h:Hp) (H:jD h c):Ct jV 192 [c.v] h fun v h'=>v=.bool (zBp (jK c))∧h'=h:=by
 have y:=H.1
 have s:=H.2
 have X:=y.max
 have R:=s.max
 have Y:IntKind.i64.wrap ((c.points.l.length:Int) - 1)=(c.points.l.length:Int) - 1:=zjz (by omega)
 rw [zBq]
 refine zdn (fun A W=>by simp) Tryz.func192 rfl rfl (by simp) fun W0=>?_
 refine Wk ?_
 refine zc9 rfl (fun t=>?_) (fun t=>?_)
 ·refine Wk ?_
  congr 1
  rcases (jQ _ _).mp t with f|f
  ·rw [decide_eq_false (by have:=JE f;omega)];rfl
  ·rw [decide_eq_false (p:=c.segments.l.length≤10) (by have:=JE f;omega),qP];rfl
 obtain ⟨z,D⟩:=Bool.or_eq_false_iff.1 t
 have z:=JF z
 have D:=JF D
 rw [JG (show c.points.l.length≤8 by omega),JG (show c.segments.l.length≤10 by omega),uk,qp]
 refine Wk ?_
 refine zde (ι:=Nat) (fun k=>⟨[(1,true,.c (.p 0 0)),(20,true,.c (.v c.points.val)),(21,true,.c (.v (.int .i64 c.points.l.length))),(22,true,.c (.v (.int .i64 k)))],[(0,.box 57 [.v c.points.val,.v c.segments.val])],h,1⟩) (fun k=>k≤c.points.l.length∧∀ i,i < k→ptOk c.points.l i=true) (fun k=>c.points.l.length - k) 0 ⟨jC _,zBu⟩ ?_ ?_
 ·refine Evs ?_
  exact Gk
 ·intro k n
  refine Wk ?_
  refine zc9 rfl (fun o=>?_) (fun o=>?_)
  ·have d:=zjH o
   repeat' first|refine Wa ?_|refine zhF (fun _=>zA0 _ _ (y.el d)) ?_|refine zhF (fun _=>zBw c _ _ H) ?_|(simp (maxSteps:=2000000) only [go_sem,jq,jj,jy,jv,jk,jx,zlf y d,y.some d,d,jW];try rfl)|refine Wb ?_|fail
   refine zc9 rfl (fun q=>?_) (fun q=>?_)
   ·refine Wk ?_
    rw [zBr d ?_];rfl
    rw [ptOk,pget d]
    rcases (jQ _ _).mp q with f|f
    ·rw [jd] at f;rw [f];rfl
    ·rw [decide_eq_false (zjD f),qP]
   ·obtain ⟨f,h2⟩:=Bool.or_eq_false_iff.1 q
    rw [jf] at f
    refine Wk ?_
    exact ⟨k+1,⟨d,zBs n.2 (by rw [ptOk,pget d,f,JG (zjE h2)];rfl)⟩,by omega,zjB (zjA d (by omega))⟩
  ·have u:=zjI o
   rw [zBt u n.2,qp]
   refine Wk ?_
   refine zde (ι:=Nat) (fun k=>⟨[(1,true,.c (.p 0 0)),(41,true,.c (.v c.segments.val)),(42,true,.c (.v (.int .i64 c.segments.l.length))),(43,true,.c (.v (.int .i64 k)))],[(0,.box 57 [.v c.points.val,.v c.segments.val])],h,1⟩) (fun k=>k≤c.segments.l.length∧∀ i,i < k→zBo c.points.l.length c.segments.l i=true) (fun k=>c.segments.l.length - k) 0 ⟨jC _,zBu⟩ ?_ ?_
   ·refine Evs ?_
    exact Gk
   intro k n
   refine Wk ?_
   refine zc9 rfl (fun o=>?_) (fun o=>?_)
   ·have d:=zjH o
    repeat' first|refine Wa ?_|refine zhF (fun _=>zAD _ _ _) ?_|refine zhF (fun _=>zAB _ _ _ _) ?_|(simp (maxSteps:=2000000) only [go_sem,jq,jj,jy,jv,jk,jx,zlh s d,s.some d,d,jW];try rfl)|refine Wb ?_|fail
    refine zc9 rfl (fun q=>?_) (fun q=>?_)
    ·refine Wk ?_
     rw [zBr d ?_]
     rw [zBo,gget d,zBm,decide_eq_false ?_,qc]
     simp only [jQ,jd,qA,JH,beq_iff_eq] at q
     omega
    ·have F:zBm c.points.l.length c.segments.l[k]=true:=by
      simp only [jp,jf,jJ,JD,beq_eq_false_iff_ne] at q
      rw [zBm]
      refine JG ?_
      omega
     have G:=Sl.to_ok s k
     have M:=Sl.to_len n.1
     have N:=s.1
     refine Wk ?_
     refine ⟨by omega,?_⟩
     simp only [je,qQ,jA,zza,zzb,ite_self]
     rw [zzc n.1]
     refine Wk ?_
     refine zde (ι:=Nat) (fun j=>⟨[(1,true,.c (.p 0 0)),(6,true,.c (.p 1 0)),(41,true,.c (.v c.segments.val)),(42,true,.c (.v (.int .i64 c.segments.l.length))),(43,true,.c (.v (.int .i64 k))),(86,true,.c (.v (c.segments.to k).val)),(87,true,.c (.v (.int .i64 k))),(88,true,.c (.v (.int .i64 j)))],[(0,.box 57 [.v c.points.val,.v c.segments.val]),(1,.box 230 [.v (.int .i64 c.segments.l[k].a),.v (.int .i64 c.segments.l[k].b),.v (.int .i64 c.segments.l[k].depth),.v (.int .i64 c.segments.l[k].minutes),.v (.bool c.segments.l[k].meet)])],h,2⟩) (fun j=>j≤k∧∀ i,i < j→zBj (c.segments.l.getD i dG) c.segments.l[k].a c.segments.l[k].b=false) (fun j=>k - j) 0 ⟨jC _,fun i r=>absurd r (qE _)⟩ ?_ ?_
     ·refine Evs ?_
      exact Gk
     intro j J
     refine Wk ?_
     refine zc9 rfl (fun w=>?_) (fun w=>?_)
     ·have g:=zjH w
      have e:j < (c.segments.to k).l.length:=by omega
      have m:j < c.segments.l.length:=by omega
      have K:=Sl.to_get e m
      repeat' first|refine Wa ?_|refine zhF (fun _=>zBl _ _ _ _) ?_|(simp (maxSteps:=2000000) only [go_sem,jq,jj,jy,jv,jk,jx,zlh G e,G.some e,e,g,jW,K];try rfl)|refine Wb ?_|fail
      refine zc9 rfl (fun x=>?_) (fun x=>?_)
      ·refine Wk ?_
       rw [zBr d ?_]
       rw [zBo,gget d,F,qp,zBn]
       refine decide_eq_false fun O=>?_
       have:=O j g
       rw [gget m,gget d,x] at this
       cases this
      ·refine Wk ?_
       exact ⟨j+1,⟨g,fun i r=>by
        rcases Nat.lt_succ_iff_lt_or_eq.1 r with r|rfl
        ·exact J.2 i r
        ·rw [gget m];exact x⟩,by omega,zjB (zjA g (by omega))⟩
     ·have Q:=zjI w
      refine Wk ?_
      refine ⟨k+1,⟨d,zBs n.2 ?_⟩,by omega,zjB (zjA d (by omega))⟩
      rw [zBo,gget d,F,qp,zBn]
      refine JG fun i r=>?_
      rw [gget d];exact J.2 i (by omega)
   ·have u:=zjI o
    refine Wk ?_
    rw [zBt u n.2]
def dH:DShip:=⟨ByteArray.empty,0,0,0,0,false⟩
theorem hget {l:List DShip} {i:Nat} (a:i < l.length):l.getD i dH=l[i]:=by simp [ja,a]
def zBz (l:List DShip) (n:ByteArray):Int:=zA1 (fun p=>decide (p.name=n)) l
def zBA (s:DShip):Bool:=zAY s.name && In s.length 10 400 && In s.draught 100 2000 && In s.line 0 3 && In s.tugs 0 4
def shOk (l:List DShip) (i:Nat):Bool:=zBA (l.getD i dH) && decide (zBz l (l.getD i dH).name=(i:Int))
def zBB (l:List DShip):Bool:=decide (l.length≤6) && decide (∀ i,i < l.length→shOk l i=true)
def zBC (r:DRegime):Bool:=In r.gap 0 60
def zBD (l:List Int):Bool:=decide (l.length=64) && l.all (fun n=>In n 0 240)
def zBE (w:PCrew):Bool:=In w.tugs 0 12 && In w.pilots 0 12 && (In w.rest 0 2880 && zBD w.moves)
def zBF (x:PHarbour):Bool:=zBb x.forecast && zBp x.chart && zBB x.fleet && zBC x.regime && zBE x.crew
theorem zBG (c:Sl DShip) (n:ByteArray) (h:Hp) (e:c.Ok h):Ct jV 250 [c.val,.string n] h fun v h'=>v=.int .i64 (zBz c.l n)∧h'=h:=by
 have o:=e.max
 refine zdn (fun A W=>by simp) Tryz.func250 rfl rfl (by simp) fun W0=>?_
 refine Wk ?_
 refine zde (ι:=Nat) (fun k=>⟨[(1,true,.c (.v (.string n))),(7,true,.c (.v c.val)),(8,true,.c (.v (.int .i64 c.l.length))),(9,true,.c (.v (.int .i64 k)))],[],h,1⟩) (fun k=>k≤c.l.length∧∀ i (b:i < c.l.length),i < k→(decide (c.l[i].name=n))=false) (fun k=>c.l.length - k) 0 ⟨jC _,fun i _ b=>absurd b (qE _)⟩ ?_ ?_
 ·refine Evs ?_
  exact Gk
 intro k f
 refine Wk ?_
 refine zc9 rfl (fun g=>?_) (fun g=>?_)
 ·have a:=zjH g
  repeat' first|refine Wa ?_|(simp only [go_sem,jq,jj,jy,jv,jk,jx,zln e a,e.some a,a,jW];try rfl)|refine Wb ?_|fail
  refine zc9 rfl (fun j=>?_) (fun j=>?_)
  ·refine Wk ?_
   rw [zBz,zA2 a j f.2]
  ·refine Wk ?_
   refine ⟨k+1,⟨a,fun i b d=>?_⟩,by omega,zjB (zjA a (by omega))⟩
   rcases Nat.lt_succ_iff_lt_or_eq.1 d with d|rfl
   ·exact f.2 i b d
   ·exact j
 ·have m:=zjI g
  refine Wk ?_
  rw [zBz,zA3 (fun i b=>f.2 i b (by omega))]
theorem zBH (s:DShip) (h:Hp) (a:jD h s):Ct jV 171 [s.v] h fun v h'=>v=.bool (zBA s)∧h'=h:=by
 refine zdn (fun A W=>by simp) Tryz.func171 rfl rfl (by simp) fun W0=>?_
 repeat' first|refine Wa ?_|refine zhF (fun _=>zAZ _ _ a.1) ?_|refine zhF (fun _=>zAA _ _ _ _) ?_|(simp only [go_sem,jq,jj,jy,jv,jk,jx];try rfl)|refine Wb ?_|fail
 skip
 skip
theorem zBI (c:Sl DShip) (h:Hp) (d:c.Ok h):Ct jV 185 [c.val] h fun v h'=>v=.bool (zBB c.l)∧h'=h:=by
 have n:=d.max
 rw [zBB]
 refine zdn (fun A W=>by simp) Tryz.func185 rfl rfl (by simp) fun W0=>?_
 refine Wk ?_
 refine zc9 rfl (fun e=>?_) (fun e=>?_)
 ·refine Wk ?_
  rw [decide_eq_false (by have:=JE e;omega)];rfl
 rw [JG (show c.l.length≤6 by have:=JF e;omega),qp]
 refine Wk ?_
 refine zde (ι:=Nat) (fun k=>⟨[(0,true,.c (.v c.val)),(8,true,.c (.v c.val)),(9,true,.c (.v (.int .i64 c.l.length))),(10,true,.c (.v (.int .i64 k)))],[],h,0⟩) (fun k=>k≤c.l.length∧∀ i,i < k→shOk c.l i=true) (fun k=>c.l.length - k) 0 ⟨jC _,zBu⟩ ?_ ?_
 ·refine Evs ?_
  exact Gk
 intro k j
 refine Wk ?_
 refine zc9 rfl (fun f=>?_) (fun f=>?_)
 ·have a:=zjH f
  repeat' first|refine Wa ?_|refine zhF (fun _=>zBH _ _ (d.el a)) ?_|refine zhF (fun _=>zBG c _ _ d) ?_|(simp only [go_sem,jq,jj,jy,jv,jk,jx,zln d a,d.some a,a,jW];try rfl)|refine Wb ?_|fail
  refine zc9 rfl (fun g=>?_) (fun g=>?_)
  ·refine Wk ?_
   rw [zBr a ?_]
   rw [shOk,hget a]
   rcases (jQ _ _).mp g with b|b
   ·rw [jd] at b;rw [b];rfl
   ·rw [decide_eq_false (zjD b),qP]
  ·obtain ⟨b,h2⟩:=Bool.or_eq_false_iff.1 g
   rw [jf] at b
   refine Wk ?_
   exact ⟨k+1,⟨a,zBs j.2 (by rw [shOk,hget a,b,JG (zjE h2)];rfl)⟩,by omega,zjB (zjA a (by omega))⟩
 ·have m:=zjI f
  refine Wk ?_
  rw [zBt m j.2]
theorem zBJ (s:DRegime) (h:Hp):Ct jV 186 [s.v] h fun v h'=>v=.bool (zBC s)∧h'=h:=by
 refine zdn (fun A W=>by simp) Tryz.func186 rfl rfl (by simp) fun W0=>?_
 repeat' first|refine Wa ?_|refine zhF (fun _=>zAA _ _ _ _) ?_|(simp only [go_sem,jq,jj,jy,jv,jk,jx];try rfl)|refine Wb ?_|fail
theorem zBK (c:Sl DShip) (n:ByteArray) (h:Hp) (e:c.Ok h):Ct jV 256 [c.val,.string n] h fun v h'=>v=.int .i64 (zBz c.l n)∧h'=h:=by
 have o:=e.max
 refine zdn (fun A W=>by simp) Tryz.func256 rfl rfl (by simp) fun W0=>?_
 refine Wk ?_
 refine zde (ι:=Nat) (fun k=>⟨[(1,true,.c (.v (.string n))),(7,true,.c (.v c.val)),(8,true,.c (.v (.int .i64 c.l.length))),(9,true,.c (.v (.int .i64 k)))],[],h,1⟩) (fun k=>k≤c.l.length∧∀ i (b:i < c.l.length),i < k→(decide (c.l[i].name=n))=false) (fun k=>c.l.length - k) 0 ⟨jC _,fun i _ b=>absurd b (qE _)⟩ ?_ ?_
 ·refine Evs ?_
  exact Gk
 intro k f
 refine Wk ?_
 refine zc9 rfl (fun g=>?_) (fun g=>?_)
 ·have a:=zjH g
  repeat' first|refine Wa ?_|(simp only [go_sem,jq,jj,jy,jv,jk,jx,zln e a,e.some a,a,jW];try rfl)|refine Wb ?_|fail
  refine zc9 rfl (fun j=>?_) (fun j=>?_)
  ·refine Wk ?_
   rw [zBz,zA2 a j f.2]
  ·refine Wk ?_
   refine ⟨k+1,⟨a,fun i b d=>?_⟩,by omega,zjB (zjA a (by omega))⟩
   rcases Nat.lt_succ_iff_lt_or_eq.1 d with d|rfl
   ·exact f.2 i b d
   ·exact j
 ·have m:=zjI g
  refine Wk ?_
  rw [zBz,zA3 (fun i b=>f.2 i b (by omega))]
theorem zBL (s:DShip) (h:Hp) (a:jD h s):Ct jV 242 [s.v] h fun v h'=>v=.bool (zBA s)∧h'=h:=by
 refine zdn (fun A W=>by simp) Tryz.func242 rfl rfl (by simp) fun W0=>?_
 repeat' first|refine Wa ?_|refine zhF (fun _=>zA0 _ _ a.1) ?_|refine zhF (fun _=>zAB _ _ _ _) ?_|refine zhF (fun _=>zAD _ _ _) ?_|(simp only [go_sem,jq,jj,jy,jv,jk,jx];try rfl)|refine Wb ?_|fail
 congr 1;rw [yq];simp only [zBA,In,jJ,jQ,jd,JD,JH,beq_iff_eq,and_assoc]
 constructor <;> intro b <;> (refine ⟨b.1,?_⟩;omega)
theorem zBM (c:Sl DShip) (h:Hp) (d:c.Ok h):Ct jV 193 [c.val] h fun v h'=>v=.bool (zBB c.l)∧h'=h:=by
 have n:=d.max
 rw [zBB]
 refine zdn (fun A W=>by simp) Tryz.func193 rfl rfl (by simp) fun W0=>?_
 refine Wk ?_
 refine zc9 rfl (fun e=>?_) (fun e=>?_)
 ·refine Wk ?_
  rw [decide_eq_false (by have:=JE e;omega)];rfl
 rw [JG (show c.l.length≤6 by have:=JF e;omega),qp]
 refine Wk ?_
 refine zde (ι:=Nat) (fun k=>⟨[(0,true,.c (.v c.val)),(8,true,.c (.v c.val)),(9,true,.c (.v (.int .i64 c.l.length))),(10,true,.c (.v (.int .i64 k)))],[],h,0⟩) (fun k=>k≤c.l.length∧∀ i,i < k→shOk c.l i=true) (fun k=>c.l.length - k) 0 ⟨jC _,zBu⟩ ?_ ?_
 ·refine Evs ?_
  exact Gk
 intro k j
 refine Wk ?_
 refine zc9 rfl (fun f=>?_) (fun f=>?_)
 ·have a:=zjH f
  repeat' first|refine Wa ?_|refine zhF (fun _=>zBL _ _ (d.el a)) ?_|refine zhF (fun _=>zBK c _ _ d) ?_|(simp only [go_sem,jq,jj,jy,jv,jk,jx,zln d a,d.some a,a,jW];try rfl)|refine Wb ?_|fail
  refine zc9 rfl (fun g=>?_) (fun g=>?_)
  ·refine Wk ?_
   rw [zBr a ?_]
   rw [shOk,hget a]
   rcases (jQ _ _).mp g with b|b
   ·rw [jd] at b;rw [b];rfl
   ·rw [decide_eq_false (zjD b),qP]
  ·obtain ⟨b,h2⟩:=Bool.or_eq_false_iff.1 g
   rw [jf] at b
   refine Wk ?_
   exact ⟨k+1,⟨a,zBs j.2 (by rw [shOk,hget a,b,JG (zjE h2)];rfl)⟩,by omega,zjB (zjA a (by omega))⟩
 ·have m:=zjI f
  refine Wk ?_
  rw [zBt m j.2]
theorem zBN (s:DRegime) (h:Hp):Ct jV 194 [s.v] h fun v h'=>v=.bool (zBC s)∧h'=h:=by
 refine zdn (fun A W=>by simp) Tryz.func194 rfl rfl (by simp) fun W0=>?_
 repeat' first|refine Wa ?_|refine zhF (fun _=>zAB _ _ _ _) ?_|(simp only [go_sem,jq,jj,jy,jv,jk,jx];try rfl)|refine Wb ?_|fail
theorem zBO {l:List Int} {k:Nat} (a:k < l.length) (h:In l[k] 0 240=false):zBD l=false:=by rw [zBD,zA6 (p:=fun n=>In n 0 240) a h,qP]
theorem zBP {l:List Int} {k:Nat} (a:l.length=64) (c:l.length≤k) (b:(l.take k).all (fun n=>In n 0 240)=true):zBD l=true:=by
 rw [qy c] at b
 rw [zBD,b,JG a];rfl
theorem zBQ (n:Int) (a:Sl Int) (h:Hp) (f:a.Ok h):Ct jV 251 [.int .i64 n,a.val] h fun v h'=>v=.bool (In n 0 2880 && zBD a.l)∧h'=h:=by
 have p:=f.max
 refine zdn (fun A W=>by simp) Tryz.func251 rfl rfl (by simp) fun W0=>?_
 repeat' first|refine Wa ?_|refine zhF (fun _=>zAA _ _ _ _) ?_|(simp only [go_sem,jq,jj,jy,jv,jk,jx];try rfl)|refine Wb ?_|fail
 refine zc9 rfl (fun g=>?_) (fun g=>?_)
 ·refine Wk ?_
  congr 1
  rcases (jQ _ _).mp g with d|d
  ·rw [jd] at d;rw [In,d];rfl
  ·rw [zBD,decide_eq_false (by have:=zjD d;omega),qc,qP]
 obtain ⟨d,h2⟩:=Bool.or_eq_false_iff.1 g
 rw [jf] at d
 have j:a.l.length=64:=by have:=zjE h2;omega
 rw [In,d,qp]
 refine Wk ?_
 refine zde (ι:=Nat) (fun k=>⟨[(15,true,.c (.v a.val)),(16,true,.c (.v (.int .i64 a.l.length))),(17,true,.c (.v (.int .i64 k)))],[],h,0⟩) (fun k=>k≤a.l.length∧(a.l.take k).all (fun n=>In n 0 240)=true) (fun k=>a.l.length - k) 0 ⟨jC _,rfl⟩ ?_ ?_
 ·refine Evs ?_
  exact Gk
 intro k m
 refine Wk ?_
 refine zc9 rfl (fun i=>?_) (fun i=>?_)
 ·have b:=zjH i
  repeat' first|refine Wa ?_|refine zhF (fun _=>zAA _ _ _ _) ?_|(simp only [go_sem,jq,jj,jy,jv,jk,jx,zkR f b,f.some b,b,jW];try rfl)|refine Wb ?_|fail
  refine zc9 rfl (fun e=>?_) (fun e=>?_)
  ·rw [jd] at e
   refine Wk ?_
   rw [zBO b e]
  ·rw [jf] at e
   refine Wk ?_
   exact ⟨k+1,⟨b,zA7 b m.2 e⟩,by omega,zjB (zjA b (by omega))⟩
 ·have o:=zjI i
  refine Wk ?_
  rw [zBP j o m.2]
theorem zBR (a:Sl Int) (h:Hp) (e:a.Ok h):Ct jV 257 [a.val] h fun v h'=>v=.bool (zBD a.l)∧h'=h:=by
 have o:=e.max
 refine zdn (fun A W=>by simp) Tryz.func257 rfl rfl (by simp) fun W0=>?_
 refine Wk ?_
 refine zc9 rfl (fun f=>?_) (fun f=>?_)
 ·refine Wk ?_
  rw [zBD,decide_eq_false (by have:=zjD f;omega)];rfl
 have i:a.l.length=64:=by have:=zjE f;omega
 refine Wk ?_
 refine zde (ι:=Nat) (fun k=>⟨[(8,true,.c (.v a.val)),(9,true,.c (.v (.int .i64 a.l.length))),(10,true,.c (.v (.int .i64 k)))],[],h,0⟩) (fun k=>k≤a.l.length∧(a.l.take k).all (fun n=>In n 0 240)=true) (fun k=>a.l.length - k) 0 ⟨jC _,rfl⟩ ?_ ?_
 ·refine Evs ?_
  exact Gk
 intro k j
 refine Wk ?_
 refine zc9 rfl (fun g=>?_) (fun g=>?_)
 ·have b:=zjH g
  repeat' first|refine Wa ?_|refine zhF (fun _=>zAB _ _ _ _) ?_|(simp only [go_sem,jq,jj,jy,jv,jk,jx,zkR e b,e.some b,b,jW];try rfl)|refine Wb ?_|fail
  refine zc9 rfl (fun d=>?_) (fun d=>?_)
  ·rw [jd] at d
   refine Wk ?_
   rw [zBO b d]
  ·rw [jf] at d
   refine Wk ?_
   exact ⟨k+1,⟨b,zA7 b j.2 d⟩,by omega,zjB (zjA b (by omega))⟩
 ·have m:=zjI g
  refine Wk ?_
  rw [zBP i m j.2]
theorem zBS (w:DCrew):zBE (jK w)=(In w.tugs 0 12 && In w.pilots 0 12 && (In w.rest 0 2880 && zBD w.moves.l)):=by
 rw [zBE,show (jK w).moves=w.moves.l from con_ints];rfl
theorem zBT (w:DCrew) (h:Hp) (a:jD h w):Ct jV 187 [w.v] h fun v h'=>v=.bool (zBE (jK w))∧h'=h:=by
 rw [zBS]
 refine zdn (fun A W=>by simp) Tryz.func187 rfl rfl (by simp) fun W0=>?_
 repeat' first|refine Wa ?_|refine zhF (fun _=>zAA _ _ _ _) ?_|refine zhF (fun _=>zBQ _ _ _ a.2.2.2) ?_|(simp only [go_sem,jq,jj,jy,jv,jk,jx];try rfl)|refine Wb ?_|fail
theorem zBU (w:DCrew) (h:Hp) (a:jD h w):Ct jV 195 [w.v] h fun v h'=>v=.bool (zBE (jK w))∧h'=h:=by
 rw [zBS]
 refine zdn (fun A W=>by simp) Tryz.func195 rfl rfl (by simp) fun W0=>?_
 repeat' first|refine Wa ?_|refine zhF (fun _=>zAB _ _ _ _) ?_|refine zhF (fun _=>zAC _ _) ?_|refine zhF (fun _=>zBR _ _ a.2.2.2) ?_|(simp only [go_sem,jq,jj,jy,jv,jk,jx];try rfl)|refine Wb ?_|fail
 congr 1;rw [yq];simp only [In,jJ,jQ,jd,JD,JH,beq_iff_eq,and_assoc]
theorem zBV (x:DHarbour):zBF (jK x)=(zBb (jK x.forecast) && zBp (jK x.chart) && zBB x.fleet.l && zBC x.regime && zBE (jK x.crew)):=by
 rw [zBF,show (jK x).fleet=x.fleet.l from zBi _];rfl
theorem zBW (x:DHarbour) (h:Hp) (a:jD h x):Ct jV 110 [x.v] h fun v h'=>v=.bool (zBF (jK x))∧h'=h:=by
 obtain ⟨b,c,d,f,e⟩:=a
 rw [zBV]
 refine zdn (fun A W=>by simp) Tryz.func110 rfl rfl (by simp) fun W0=>?_
 repeat' first|refine Wa ?_|refine zhF (fun _=>zBd x.forecast _ b) ?_|refine zhF (fun _=>zBx x.chart _ c) ?_|refine zhF (fun _=>zBI _ _ d) ?_|refine zhF (fun _=>zBJ x.regime _) ?_|refine zhF (fun _=>zBT x.crew _ e) ?_|(simp only [go_sem,jq,jj,jy,jv,jk,jx];try rfl)|refine Wb ?_|fail
theorem zBX (x:DHarbour) (h:Hp) (a:jD h x):Ct jV 115 [x.v] h fun v h'=>v=.bool (zBF (jK x))∧h'=h:=by
 obtain ⟨b,c,d,f,e⟩:=a
 rw [zBV]
 refine zdn (fun A W=>by simp) Tryz.func115 rfl rfl (by simp) fun W0=>?_
 repeat' first|refine Wa ?_|refine zhF (fun _=>zBe x.forecast _ b) ?_|refine zhF (fun _=>zBy x.chart _ c) ?_|refine zhF (fun _=>zBM _ _ d) ?_|refine zhF (fun _=>zBN x.regime _) ?_|refine zhF (fun _=>zBU x.crew _ e) ?_|(simp only [go_sem,jq,jj,jy,jv,jk,jx];try rfl)|refine Wb ?_|fail
def zBY (x:PHarbour) (a:DCall):Bool:=decide (0≤a.ship∧a.ship < x.fleet.length∧0≤a.src∧a.src < x.chart.points.length∧0≤a.dst∧a.dst < x.chart.points.length∧a.src ≠ a.dst∧0≤a.ready∧a.ready≤2880∧a.ready≤a.due∧a.due≤2880)
def zBZ (x:PHarbour) (a:DCall):Bool:=zBF x && zBY x a
theorem zB0 (x:DHarbour) (a:DCall):zBY (jK x) a=decide (0≤a.ship∧a.ship < x.fleet.l.length∧0≤a.src∧a.src < x.chart.points.l.length∧0≤a.dst∧a.dst < x.chart.points.l.length∧a.src ≠ a.dst∧0≤a.ready∧a.ready≤2880∧a.ready≤a.due∧a.due≤2880):=by
 rw [zBY,show (jK x).fleet=x.fleet.l from zBi _,show (jK x).chart.points=x.chart.points.l from zBg _]
theorem zB1 (x:DHarbour) (a:DCall) (h:Hp) (b:jD h x):Ct jV 151 [x.v,a.v] h fun v h'=>v=.bool (zBY (jK x) a)∧h'=h:=by
 rw [zB0]
 refine zdn (fun A W=>by simp) Tryz.func151 rfl rfl (by simp) fun W0=>?_
 repeat' first|refine Wa ?_|refine zhF (fun _=>zAD _ _ _) ?_|refine zhF (fun _=>zAC _ _) ?_|refine zhF (fun _=>zAB _ _ _ _) ?_|(simp (maxSteps:=2000000) only [go_sem,jq,jj,jy,jv,jk,jx];try rfl)|refine Wb ?_|fail
 congr 1
 rw [yq]
 simp only [jJ,JD,jd,beq_eq_false_iff_ne,bne_iff_ne,ne_eq,and_assoc]
 skip
theorem zB2 (x:DHarbour) (a:DCall) (h:Hp) (b:jD h x) (c:jD h a):Ct jV 97 [x.v,a.v] h fun v h'=>v=.bool (zBZ (jK x) (jK a))∧h'=h:=by
 rw [zBZ,show (jK a:DCall)=a from rfl]
 refine zdn (fun A W=>by simp) Tryz.func97 rfl rfl (by simp) fun W0=>?_
 repeat' first|refine Wa ?_|refine zhF (fun _=>zBX x _ b) ?_|refine zhF (fun _=>zB1 x a _ b) ?_|(simp (maxSteps:=2000000) only [go_sem,jq,jj,jy,jv,jk,jx];try rfl)|refine Wb ?_|fail
theorem zB3 (x:DHarbour) (a:DCall) (h:Hp) (b:jD h x) (f:jD h a):Ct jV 93 [x.v,a.v] h fun v h'=>v=.bool (zBZ (jK x) (jK a))∧h'=h:=by
 have g:=b.2.1.1.max
 have i:=b.2.2.1.max
 have c:IntKind.i64.wrap ((x.chart.points.l.length:Int) - 1)=(x.chart.points.l.length:Int) - 1:=zjz (by omega)
 have d:IntKind.i64.wrap ((x.fleet.l.length:Int) - 1)=(x.fleet.l.length:Int) - 1:=zjz (by omega)
 rw [zBZ,show (jK a:DCall)=a from rfl,zB0]
 refine zdn (fun A W=>by simp) Tryz.func93 rfl rfl (by simp) fun W0=>?_
 repeat' first|refine Wa ?_|refine zhF (fun _=>zBW x _ b) ?_|refine zhF (fun _=>zAA _ _ _ _) ?_|(simp (maxSteps:=2000000) only [go_sem,jq,jj,jy,jv,jk,jx,c,d];try rfl)|refine Wb ?_|fail
 congr 1
 rw [yq]
 simp only [jJ,JD,jd,beq_eq_false_iff_ne,bne_iff_ne,ne_eq,and_assoc]
 constructor <;> intro e <;> refine ⟨e.1,?_⟩ <;> omega
def dC:DCall:=⟨0,0,0,0,0⟩
theorem cget {l:List DCall} {i:Nat} (a:i < l.length):l.getD i dC=l[i]:=by simp [ja,a]
def zB4 (l:List DCall) (i:Nat):Bool:=decide (∀ j,j < i→(l.getD j dC).ship ≠ (l.getD i dC).ship)
def clOk (x:PHarbour) (l:List DCall) (i:Nat):Bool:=zBY x (l.getD i dC) && zB4 l i
def zB5 (x:PHarbour) (l:List DCall):Bool:=zBF x && decide (l.length≤6) && decide (∀ i,i < l.length→clOk x l i=true)
theorem zB6 (s:Sl DCall):jK s=s.l:=ux _
theorem zB7 (x:DHarbour) (a:Sl DCall) (h:Hp) (D:jD h x) (m:jD h a):Ct jV 64 [x.v,a.val] h fun v h'=>v=.bool (zB5 (jK x) (jK a))∧h'=h:=by
 have m:a.Ok h:=m
 have O:=m.max
 rw [zB5,zB6]
 refine zdn (fun A W=>by simp) Tryz.func64 rfl rfl (by simp) fun W0=>?_
 repeat' first|refine Wa ?_|refine zhF (fun _=>zBW x _ D) ?_|(simp only [go_sem,jq,jj,jy,jv,jk,jx];try rfl)|refine Wb ?_|fail
 refine zc9 rfl (fun y=>?_) (fun y=>?_)
 ·refine Wk ?_
  congr 1
  rcases (jQ _ _).mp y with s|s
  ·rw [jd] at s;rw [s];rfl
  ·rw [decide_eq_false (p:=a.l.length≤6) (by have:=JE s;omega),qP];rfl
 obtain ⟨t,H⟩:=Bool.or_eq_false_iff.1 y
 rw [jf] at t
 rw [t,JG (show a.l.length≤6 by have:=JF H;omega),uk,qp]
 refine Wk ?_
 refine zde (ι:=Nat) (fun k=>⟨[(1,true,.c (.v a.val)),(2,true,.c (.p 0 0)),(17,true,.c (.v a.val)),(18,true,.c (.v (.int .i64 a.l.length))),(19,true,.c (.v (.int .i64 k)))],[(0,.box 62 [.v (.int .i64 x.forecast.tide.mean),.v x.forecast.tide.parts.val,.v x.forecast.surges.val,.v x.chart.points.val,.v x.chart.segments.val,.v x.fleet.val,.v (.int .i64 x.regime.gap),.v (.bool x.regime.noMeet),.v (.int .i64 x.crew.tugs),.v (.int .i64 x.crew.pilots),.v (.int .i64 x.crew.rest),.v x.crew.moves.val])],h,1⟩) (fun k=>k≤a.l.length∧∀ i,i < k→clOk (jK x) a.l i=true) (fun k=>a.l.length - k) 0 ⟨jC _,zBu ⟩ ?_ ?_
 ·refine Evs ?_
  exact Gk
 intro k u
 refine Wk ?_
 refine zc9 rfl (fun z=>?_) (fun z=>?_)
 ·have b:=zjH z
  have e:=cget b
  repeat' first|refine Wa ?_|refine zhF (fun _=>zB3 x _ _ D (m.el b)) ?_|(simp only [go_sem,jq,jj,jy,jv,jk,jx,zkT m b,m.some b,b,jW];try rfl)|refine Wb ?_|fail
  refine zc9 rfl (fun n=>?_) (fun n=>?_)
  ·rw [jd] at n
   rw [zBZ,show (jK a.l[k]:DCall)=a.l[k] from rfl,t,qp] at n
   refine Wk ?_
   rw [zBr  b (by rw [clOk,e,n,qc])]
  ·rw [jf] at n
   rw [zBZ,show (jK a.l[k]:DCall)=a.l[k] from rfl,t,qp] at n
   have w:=Sl.to_ok m k
   have J:=Sl.to_len u.1
   have K:=m.1
   refine Wk ?_
   refine ⟨by omega,?_⟩
   simp only [je,qQ,jA,zza,zzb,ite_self]
   rw [zzc u.1]
   refine Wk ?_
   refine zde (ι:=Nat) (fun j=>⟨[(1,true,.c (.v a.val)),(2,true,.c (.p 0 0)),(6,true,.c (.p 1 0)),(17,true,.c (.v a.val)),(18,true,.c (.v (.int .i64 a.l.length))),(19,true,.c (.v (.int .i64 k))),(30,true,.c (.v (a.to k).val)),(31,true,.c (.v (.int .i64 k))),(32,true,.c (.v (.int .i64 j)))],[(0,.box 62 [.v (.int .i64 x.forecast.tide.mean),.v x.forecast.tide.parts.val,.v x.forecast.surges.val,.v x.chart.points.val,.v x.chart.segments.val,.v x.fleet.val,.v (.int .i64 x.regime.gap),.v (.bool x.regime.noMeet),.v (.int .i64 x.crew.tugs),.v (.int .i64 x.crew.pilots),.v (.int .i64 x.crew.rest),.v x.crew.moves.val]),(1,.box 79 [.v (.int .i64 a.l[k].ship),.v (.int .i64 a.l[k].src),.v (.int .i64 a.l[k].dst),.v (.int .i64 a.l[k].ready),.v (.int .i64 a.l[k].due)])],h,2⟩) (fun j=>j≤k∧∀ i,i < j→(a.l.getD i dC).ship ≠ a.l[k].ship) (fun j=>k - j) 0 ⟨jC _,fun i q=>absurd q (qE _)⟩ ?_ ?_
   ·refine Evs ?_
    exact Gk
   intro j F
   refine Wk ?_
   refine zc9 rfl (fun r=>?_) (fun r=>?_)
   ·have f:=zjH r
    have d:j < (a.to k).l.length:=by omega
    have g:j < a.l.length:=by omega
    have G:=Sl.to_get d g
    repeat' first|refine Wa ?_|(simp only [go_sem,jq,jj,jy,jv,jk,jx,zkT w d,w.some d,d,f,jW,G];try rfl)|refine Wb ?_|fail
    refine zc9 rfl (fun o=>?_) (fun o=>?_)
    ·have o:=eq_of_beq o
     refine Wk ?_
     rw [zBr  b ?_]
     rw [clOk,e,n,qp,zB4]
     refine decide_eq_false fun M=>M j f ?_
     rw [cget g,e];omega
    ·have o:=beq_eq_false_iff_ne.1 o
     refine Wk ?_
     refine ⟨j+1,⟨f,fun i q=>?_⟩,by omega,zjB (zjA f (by omega))⟩
     rcases Nat.lt_succ_iff_lt_or_eq.1 q with q|rfl
     ·exact F.2 i q
     ·rw [cget g];omega
   ·have N:=zjI r
    refine Wk ?_
    refine ⟨k+1,⟨b,zBs  u.2 ?_⟩,by omega,zjB (zjA b (by omega))⟩
    rw [clOk,e,n,qp,zB4]
    refine JG fun i q=>?_
    rw [e];exact F.2 i (by omega)
 ·have e:=zjI z
  refine Wk ?_
  rw [zBt  e u.2]
theorem zB8 (x:DHarbour) (a:Sl DCall) (h:Hp) (z:jD h x) (n:jD h a):Ct jV 73 [x.v,a.val] h fun v h'=>v=.bool (zB5 (jK x) (jK a))∧h'=h:=by
 have n:a.Ok h:=n
 have O:=n.max
 rw [zB5,zB6]
 refine zdn (fun A W=>by simp) Tryz.func73 rfl rfl (by simp) fun W0=>?_
 repeat' first|refine Wa ?_|refine zhF (fun _=>zBX x _ z) ?_|(simp only [go_sem,jq,jj,jy,jv,jk,jx];try rfl)|refine Wb ?_|fail
 refine zc9 rfl (fun w=>?_) (fun w=>?_)
 ·refine Wk ?_
  congr 1
  rcases (jQ _ _).mp w with s|s
  ·rw [jd] at s;rw [s];rfl
  ·rw [decide_eq_false (p:=a.l.length≤6) (by have:=JE s;omega),qP];rfl
 obtain ⟨D,H⟩:=Bool.or_eq_false_iff.1 w
 rw [jf] at D
 rw [D,JG (show a.l.length≤6 by have:=JF H;omega),uk,qp]
 refine Wk ?_
 refine zde (ι:=Nat) (fun k=>⟨[(1,true,.c (.v a.val)),(2,true,.c (.p 0 0)),(17,true,.c (.v a.val)),(18,true,.c (.v (.int .i64 a.l.length))),(19,true,.c (.v (.int .i64 k)))],[(0,.box 62 [.v (.int .i64 x.forecast.tide.mean),.v x.forecast.tide.parts.val,.v x.forecast.surges.val,.v x.chart.points.val,.v x.chart.segments.val,.v x.fleet.val,.v (.int .i64 x.regime.gap),.v (.bool x.regime.noMeet),.v (.int .i64 x.crew.tugs),.v (.int .i64 x.crew.pilots),.v (.int .i64 x.crew.rest),.v x.crew.moves.val])],h,1⟩) (fun k=>k≤a.l.length∧∀ i,i < k→clOk (jK x) a.l i=true) (fun k=>a.l.length - k) 0 ⟨jC _,zBu ⟩ ?_ ?_
 ·refine Evs ?_
  exact Gk
 intro k t
 refine Wk ?_
 refine zc9 rfl (fun y=>?_) (fun y=>?_)
 ·have b:=zjH y
  have e:=cget b
  repeat' first|refine Wa ?_|refine zhF (fun _=>zB1 x _ _ z) ?_|(simp only [go_sem,jq,jj,jy,jv,jk,jx,zkT n b,n.some b,b,jW];try rfl)|refine Wb ?_|fail
  refine zc9 rfl (fun o=>?_) (fun o=>?_)
  ·rw [jd] at o
   skip
   refine Wk ?_
   rw [zBr  b (by rw [clOk,e,o,qc])]
  ·rw [jf] at o
   skip
   have u:=Sl.to_ok n k
   have J:=Sl.to_len t.1
   have K:=n.1
   refine Wk ?_
   refine ⟨by omega,?_⟩
   simp only [je,qQ,jA,zza,zzb,ite_self]
   rw [zzc t.1]
   refine Wk ?_
   refine zde (ι:=Nat) (fun j=>⟨[(1,true,.c (.v a.val)),(2,true,.c (.p 0 0)),(6,true,.c (.p 1 0)),(17,true,.c (.v a.val)),(18,true,.c (.v (.int .i64 a.l.length))),(19,true,.c (.v (.int .i64 k))),(30,true,.c (.v (a.to k).val)),(31,true,.c (.v (.int .i64 k))),(32,true,.c (.v (.int .i64 j)))],[(0,.box 62 [.v (.int .i64 x.forecast.tide.mean),.v x.forecast.tide.parts.val,.v x.forecast.surges.val,.v x.chart.points.val,.v x.chart.segments.val,.v x.fleet.val,.v (.int .i64 x.regime.gap),.v (.bool x.regime.noMeet),.v (.int .i64 x.crew.tugs),.v (.int .i64 x.crew.pilots),.v (.int .i64 x.crew.rest),.v x.crew.moves.val]),(1,.box 79 [.v (.int .i64 a.l[k].ship),.v (.int .i64 a.l[k].src),.v (.int .i64 a.l[k].dst),.v (.int .i64 a.l[k].ready),.v (.int .i64 a.l[k].due)])],h,2⟩) (fun j=>j≤k∧∀ i,i < j→(a.l.getD i dC).ship ≠ a.l[k].ship) (fun j=>k - j) 0 ⟨jC _,fun i q=>absurd q (qE _)⟩ ?_ ?_
   ·refine Evs ?_
    exact Gk
   intro j F
   refine Wk ?_
   refine zc9 rfl (fun r=>?_) (fun r=>?_)
   ·have f:=zjH r
    have d:j < (a.to k).l.length:=by omega
    have g:j < a.l.length:=by omega
    have G:=Sl.to_get d g
    repeat' first|refine Wa ?_|(simp only [go_sem,jq,jj,jy,jv,jk,jx,zkT u d,u.some d,d,f,jW,G];try rfl)|refine Wb ?_|fail
    refine zc9 rfl (fun m=>?_) (fun m=>?_)
    ·have m:=eq_of_beq m
     refine Wk ?_
     rw [zBr  b ?_]
     rw [clOk,e,o,qp,zB4]
     refine decide_eq_false fun M=>M j f ?_
     rw [cget g,e];omega
    ·have m:=beq_eq_false_iff_ne.1 m
     refine Wk ?_
     refine ⟨j+1,⟨f,fun i q=>?_⟩,by omega,zjB (zjA f (by omega))⟩
     rcases Nat.lt_succ_iff_lt_or_eq.1 q with q|rfl
     ·exact F.2 i q
     ·rw [cget g];omega
   ·have N:=zjI r
    refine Wk ?_
    refine ⟨k+1,⟨b,zBs  t.2 ?_⟩,by omega,zjB (zjA b (by omega))⟩
    rw [clOk,e,o,qp,zB4]
    refine JG fun i q=>?_
    rw [e];exact F.2 i (by omega)
 ·have e:=zjI y
  refine Wk ?_
  rw [zBt  e t.2]
def zB9 (c:PChart) (p:DPassage):Int × Int:=if p.toward then ((c.segments.getD p.seg.toNat dG).a,(c.segments.getD p.seg.toNat dG).b) else ((c.segments.getD p.seg.toNat dG).b,(c.segments.getD p.seg.toNat dG).a)
def zCa (s:DShip) (g:DSegment):Int:=if s.slow then IntKind.i64.wrap (2 * g.minutes) else g.minutes
def zCb (c:PChart) (l:List DShip) (p:DPassage):Bool:=decide (0≤p.ship∧p.ship < l.length∧0≤p.seg∧p.seg < c.segments.length∧0≤p.start∧p.start≤2880∧p.fin≤2880) && decide (p.fin=IntKind.i64.wrap (p.start+zCa (l.getD p.ship.toNat dH) (c.segments.getD p.seg.toNat dG)))
def zCc (c:PChart) (l:List DShip) (p:DPassage):Bool:=zBp c && zBB l && zCb c l p
theorem zCd (c:DChart):(jK c).segments=c.segments.l:=zBh _
theorem zCe (c:DChart) (p:DPassage) (d:p.seg.toNat < c.segments.l.length):zB9 (jK c) p=if p.toward then (c.segments.l[p.seg.toNat].a,c.segments.l[p.seg.toNat].b) else (c.segments.l[p.seg.toNat].b,c.segments.l[p.seg.toNat].a):=by
 rw [zB9,zCd,gget d]
theorem zCf (c:DChart) (p:DPassage) (h:Hp) (e:jD h c) (h0:0≤p.seg) (f:p.seg < c.segments.l.length):Ct jV 301 [c.v,p.v] h fun v h'=>v=.tuple #[.int .i64 (zB9 (jK c) p).1,.int .i64 (zB9 (jK c) p).2]∧h'=h:=by
 have d:=e.2
 have a:p.seg.toNat < c.segments.l.length:=by omega
 rw [zCe c p a]
 refine zdn (fun A W=>by simp) Tryz.func301 rfl rfl (by simp) fun W0=>?_
 repeat' first|refine Wa ?_|(simp (maxSteps:=2000000) only [go_sem,jq,jj,jy,jv,jk,jx,zlh d a,d.some a,a,h0,f];try rfl)|refine Wb ?_|fail
 refine zc9 rfl (fun b=>?_) (fun b=>?_)
 ·refine Wk ?_
  refine zi8 rfl (by kernel_rfl) ?_
  refine Evs ?_
  refine Wk ?_
  rw [b];rfl
 ·refine Wk ?_
  refine zi8 rfl (by kernel_rfl) ?_
  refine Evs ?_
  refine Wk ?_
  rw [b];rfl
theorem zCg (c:DChart) (p:DPassage) (h:Hp) (e:jD h c) (h0:0≤p.seg) (f:p.seg < c.segments.l.length):Ct jV 287 [p.v,c.v] h fun v h'=>v=.tuple #[.int .i64 (zB9 (jK c) p).1,.int .i64 (zB9 (jK c) p).2]∧h'=h:=by
 have d:=e.2
 have a:p.seg.toNat < c.segments.l.length:=by omega
 rw [zCe c p a]
 refine zdn (fun A W=>by simp) Tryz.func287 rfl rfl (by simp) fun W0=>?_
 repeat' first|refine Wa ?_|(simp (maxSteps:=2000000) only [go_sem,jq,jj,jy,jv,jk,jx,zlh d a,d.some a,a,h0,f];try rfl)|refine Wb ?_|fail
 refine zc9 rfl (fun b=>?_) (fun b=>?_)
 ·refine Wk ?_
  refine zi8 rfl (by kernel_rfl) ?_
  refine Evs ?_
  refine Wk ?_
  rw [b];rfl
 ·refine Wk ?_
  refine zi8 rfl (by kernel_rfl) ?_
  refine Evs ?_
  refine Wk ?_
  rw [b];rfl
theorem zCh (g:DSegment) (s:DShip) (h:Hp):Ct jV 175 [g.v,s.v] h fun v h'=>v=.int .i64 (zCa s g)∧h'=h:=by
 refine zdn (fun A W=>by simp) Tryz.func175 rfl rfl (by simp) fun W0=>?_
 refine Wk ?_
 refine zc9 rfl (fun a=>?_) (fun a=>?_)
 ·refine Wk ?_
  rw [zCa,if_pos a]
 ·refine Wk ?_
  rw [zCa,if_neg (by rw [a];exact qa)]
theorem zCi (s:DShip) (g:DSegment) (h:Hp):Ct jV 244 [s.v,g.v] h fun v h'=>v=.int .i64 (zCa s g)∧h'=h:=by
 refine zdn (fun A W=>by simp) Tryz.func244 rfl rfl (by simp) fun W0=>?_
 refine Wk ?_
 refine zc9 rfl (fun a=>?_) (fun a=>?_)
 ·refine Wk ?_
  rw [zCa,if_pos a]
 ·refine Wk ?_
  rw [zCa,if_neg (by rw [a];exact qa)]
theorem zCj (c:DChart) (k:Int) (s:DShip) (h:Hp) (i:jD h c) (j:jD h s):Ct jV 295 [c.v,.int .i64 k,s.v] h fun v h'=>v=.int .i64 (if zBp (jK c)=true∧zBA s=true∧0≤k∧k < c.segments.l.length then zCa s (c.segments.l.getD k.toNat dG) else 0)∧h'=h:=by
 have d:=i.2
 have o:=d.max
 have m:IntKind.i64.wrap ((c.segments.l.length:Int) - 1)=(c.segments.l.length:Int) - 1:=zjz (by omega)
 refine zdn (fun A W=>by simp) Tryz.func295 rfl rfl (by simp) fun W0=>?_
 repeat' first|refine Wa ?_|refine zhF (fun _=>zBx c _ i) ?_|refine zhF (fun _=>zBH s _ j) ?_|refine zhF (fun _=>zAA _ _ _ _) ?_|(simp (maxSteps:=2000000) only [go_sem,jq,jj,jy,jv,jk,jx,m];try rfl)|refine Wb ?_|fail
 refine zc9 rfl (fun b=>?_) (fun b=>?_)
 ·refine Wk ?_
  simp only [jQ,jd,qA,JH] at b
  rw [if_neg]
  rintro ⟨g,h2,f,n⟩
  rw [g,h2] at b
  rcases b with (b|b)|b
  ·cases b
  ·cases b
  ·omega
 ·simp only [jp,jf,jJ,JD] at b
  obtain ⟨⟨g,h2⟩,f,n⟩:=b
  have a:k.toNat < c.segments.l.length:=by omega
  have e:k < (c.segments.l.length:Int):=by omega
  rw [if_pos ⟨g,h2,f,e⟩,gget a]
  refine Wk ?_
  refine ziV rfl ?_
  refine zi3 [0,1,2,3,4,5] rfl (by kernel_rfl) ?_
  simp (maxSteps:=2000000) only [go_sem,jq,jj,jy,jv,jk,jx,zlh d a,d.some a,a,f,e]
  refine ziT [6] (by kernel_rfl) (by kernel_rfl) ?_
  simp (maxSteps:=2000000) only [go_sem,jq,jj,jy,jv,jk,jx,zlh d a,d.some a,a,f,e]
  refine zhF (fun _=>zCh _ _ _) ?_
  simp (maxSteps:=2000000) only [go_sem,jq,jj,jy,jv,jk,jx,zlh d a,d.some a,a,f,e]
  refine zi3 [7] rfl (by kernel_rfl) ?_
  refine Evs ?_
  refine ziU (by kernel_rfl) ?_
  exact Wk0
theorem zCk (c:DChart) (l:List DShip) (p:DPassage):zCb (jK c) l p=(decide (0≤p.ship∧p.ship < l.length∧0≤p.seg∧p.seg < c.segments.l.length∧0≤p.start∧p.start≤2880∧p.fin≤2880) && decide (p.fin=IntKind.i64.wrap (p.start+zCa (l.getD p.ship.toNat dH) (c.segments.l.getD p.seg.toNat dG)))):=by
 rw [zCb,zCd]
theorem zCl (c:DChart) (a:Sl DShip) (p:DPassage) (h:Hp) (j:jD h c) (f:a.Ok h):Ct jV 306 [c.v,a.val,p.v] h fun v h'=>v=.bool (zCb (jK c) a.l p)∧h'=h:=by
 have g:=j.2
 rw [zCk]
 refine zdn (fun A W=>by simp) Tryz.func306 rfl rfl (by simp) fun W0=>?_
 repeat' first|refine Wa ?_|refine zhF (fun _=>zAD _ _ _) ?_|refine zhF (fun _=>zAC _ _) ?_|(simp (maxSteps:=2000000) only [go_sem,jq,jj,jy,jv,jk,jx];try rfl)|refine Wb ?_|fail
 refine zc9 rfl (fun i=>?_) (fun i=>?_)
 ·refine Wk ?_
  simp only [jQ,jd,qA,JH,JD] at i
  rw [decide_eq_false (by omega),qc]
 ·simp only [jp,jf,jJ,JD,JH] at i
  have e:0≤p.ship∧p.ship < (a.l.length:Int)∧0≤p.seg∧p.seg < (c.segments.l.length:Int)∧0≤p.start∧p.start≤2880∧p.fin≤2880:=by omega
  have b:p.seg.toNat < c.segments.l.length:=by omega
  have d:p.ship.toNat < a.l.length:=by omega
  rw [JG e,qp,gget b,hget d]
  refine Wk ?_
  refine ziV rfl ?_
  refine zi3 [0,1,2,3,4,5,6,7,8,9,10,11,12,13,14] rfl (by kernel_rfl) ?_
  simp (maxSteps:=2000000) only [go_sem,jq,jj,jy,jv,jk,jx,zlh g b,g.some b,b,e.2.2.1,e.2.2.2.1,zln f d,f.some d,d,e.1,e.2.1]
  refine ziT [15] (by kernel_rfl) (by kernel_rfl) ?_
  simp (maxSteps:=2000000) only [go_sem,jq,jj,jy,jv,jk,jx,zlh g b,g.some b,b,e.2.2.1,e.2.2.2.1,zln f d,f.some d,d,e.1,e.2.1]
  refine zhF (fun _=>zCi _ _ _) ?_
  simp (maxSteps:=2000000) only [go_sem,jq,jj,jy,jv,jk,jx,zlh g b,g.some b,b,e.2.2.1,e.2.2.2.1,zln f d,f.some d,d,e.1,e.2.1]
  refine zi3 [16,17,18] rfl (by kernel_rfl) ?_
  refine Evs ?_
  refine ziU (by kernel_rfl) ?_
  exact Wk0
theorem zCm (c:DChart) (a:Sl DShip) (p:DPassage) (h:Hp) (b:jD h c) (d:a.Ok h):Ct jV 288 [c.v,a.val,p.v] h fun v h'=>v=.bool (zCc (jK c) a.l p)∧h'=h:=by
 rw [zCc]
 refine zdn (fun A W=>by simp) Tryz.func288 rfl rfl (by simp) fun W0=>?_
 repeat' first|refine Wa ?_|refine zhF (fun _=>zBy c _ b) ?_|refine zhF (fun _=>zBM _ _ d) ?_|refine zhF (fun _=>zCl c a p _ b d) ?_|(simp (maxSteps:=2000000) only [go_sem,jq,jj,jy,jv,jk,jx];try rfl)|refine Wb ?_|fail
theorem zCn (c:DChart) (a:Sl DShip) (p:DPassage) (h:Hp) (i:jD h c) (e:a.Ok h):Ct jV 300 [c.v,a.val,p.v] h fun v h'=>v=.bool (zCc (jK c) a.l p)∧h'=h:=by
 have s:=i.2
 have x:=s.max
 have w:=e.max
 have t:IntKind.i64.wrap ((c.segments.l.length:Int) - 1)=(c.segments.l.length:Int) - 1:=zjz (by omega)
 have k:IntKind.i64.wrap ((a.l.length:Int) - 1)=(a.l.length:Int) - 1:=zjz (by omega)
 rw [zCc,zCk]
 refine zdn (fun A W=>by simp) Tryz.func300 rfl rfl (by simp) fun W0=>?_
 repeat' first|refine Wa ?_|refine zhF (fun _=>zBx c _ i) ?_|refine zhF (fun _=>zBI _ _ e) ?_|refine zhF (fun _=>zAA _ _ _ _) ?_|(simp (maxSteps:=2000000) only [go_sem,jq,jj,jy,jv,jk,jx,t,k];try rfl)|refine Wb ?_|fail
 refine zc9 rfl (fun d=>?_) (fun d=>?_)
 ·refine Wk ?_
  congr 1
  simp only [jQ,jd,qA,JH] at d
  rcases d with (((d|d)|d)|d)|d
  ·rw [d];rfl
  ·rw [d,qP];rfl
  ·rw [decide_eq_false (p:=0≤p.ship∧_) (by omega),qc,qP]
  ·rw [decide_eq_false (p:=0≤p.ship∧_) (by omega),qc,qP]
  ·rw [decide_eq_false (p:=0≤p.ship∧_) (by omega),qc,qP]
 ·simp only [jp,jf,jJ,JD] at d
  obtain ⟨⟨⟨⟨m,n⟩,j,h2⟩,u,y⟩,z,D⟩:=d
  have f:p.ship < (a.l.length:Int):=by omega
  have o:p.seg < (c.segments.l.length:Int):=by omega
  have g:p.seg.toNat < c.segments.l.length:=by omega
  have b:p.ship.toNat < a.l.length:=by omega
  have q:zBA a.l[p.ship.toNat]=true:=by
   have r:=JE (Bool.and_eq_true_iff.1 n).2 p.ship.toNat b
   rw [shOk,hget b] at r
   exact (Bool.and_eq_true_iff.1 r).1
  rw [m,n,uk,qp,gget g,hget b]
  refine Wk ?_
  refine ziV rfl ?_
  refine zi3 [0,1,2,3,4,5,6,7,8,9,10,11] rfl (by kernel_rfl) ?_
  simp (maxSteps:=2000000) only [go_sem,jq,jj,jy,jv,jk,jx,zln e b,e.some b,b,j,f]
  refine ziT [12] (by kernel_rfl) (by kernel_rfl) ?_
  simp (maxSteps:=2000000) only [go_sem,jq,jj,jy,jv,jk,jx,zln e b,e.some b,b,j,f]
  refine zhF (fun _=>zCj c _ _ _ i (e.el b)) ?_
  simp (maxSteps:=2000000) only [go_sem,jq,jj,jy,jv,jk,jx,zln e b,e.some b,b,j,f]
  refine zi3 [13,14,15,16,17,18,19,20] rfl (by kernel_rfl) ?_
  refine Evs ?_
  refine ziU (by kernel_rfl) ?_
  refine Wk ?_
  rw [if_pos ⟨m,q,u,o⟩,gget g]
  congr 1
  rw [yq]
  simp only [jJ,JD,beq_iff_eq]
  constructor <;> intro F <;> omega
def Ov (p q:DPassage):Bool:=decide (max p.start q.start < min p.fin q.fin)
def zCo (a b g:Int):Bool:=decide (max a b - min a b < g)
def zCp (c:PChart) (r:DRegime) (p q:DPassage):Int :=
 if ¬ (p.seg=q.seg∧0≤p.seg∧p.seg < c.segments.length) then 0
 else if p.ship=q.ship then (if Ov p q=true then 1 else 0)
 else if p.toward ≠ q.toward then (if (Ov p q && (r.noMeet || !(c.segments.getD p.seg.toNat dG).meet))=true then 2 else 0)
 else if (zCo p.start q.start r.gap || zCo p.fin q.fin r.gap)=true then 3
 else if (p.start < q.start∧q.fin < p.fin)∨(q.start < p.start∧p.fin < q.fin) then 4 else 0
def zCq (c:PChart) (r:DRegime) (a b:List DPassage):Bool:=a.any fun p=>b.any fun q=>decide (zCp c r p q ≠ 0)
theorem zCr {α:Type} {f:α→Bool} {l:List α} {k:Nat} (a:k < l.length):(l.take (k+1)).any f=((l.take k).any f || f l[k]):=by
 rw [qw a,List.any_append,List.any_cons,List.any_nil,wC]
theorem zCs {α:Type} {f:α→Bool} {l:List α} {k:Nat} (a:k < l.length) (h:f l[k]=true):l.any f=true:=List.any_eq_true.2 ⟨_,qd a,h⟩
theorem zCt {a b g:Int} (c:I64 a) (d:I64 b) (e:0≤g∧g≤60):decide (IntKind.u64.wrap (IntKind.u64.wrap (max a b) - IntKind.u64.wrap (min a b)) < IntKind.u64.wrap g)=zCo a b g:=by
 unfold I64 at c d
 rw [zCo,decide_eq_decide]
 show ((max a b % (2 ^ 64:Int) - min a b % (2 ^ 64:Int)) % (2 ^ 64:Int) < g % (2 ^ 64:Int)) ↔ _
 omega
theorem zCu (p q:DPassage) (h:Hp):Ct jV 236 [p.v,q.v] h fun v h'=>v=.bool (Ov p q)∧h'=h:=by
 refine zdn (fun A W=>by simp) Tryz.func236 rfl rfl (by simp) fun W0=>?_
 exact Wk0
 try rfl
theorem zCv (p q:DPassage) (h:Hp):Ct jV 268 [p.v,q.v] h fun v h'=>v=.bool (Ov p q)∧h'=h:=by
 refine zdn (fun A W=>by simp) Tryz.func268 rfl rfl (by simp) fun W0=>?_
 exact Wk0
 try rfl
theorem zCw (a b g:Int) (h:Hp) (c:I64 a) (d:I64 b) (e:0≤g∧g≤60):Ct jV 237 [.int .i64 a,.int .i64 b,.int .i64 g] h fun v h'=>v=.bool (zCo a b g)∧h'=h:=by
 rw [← zCt c d e]
 refine zdn (fun A W=>by simp) Tryz.func237 rfl rfl (by simp) fun W0=>?_
 exact Wk0
theorem zCx (a b g:Int) (h:Hp) (i:I64 a) (j:I64 b) (k:0≤g∧g≤60):Ct jV 269 [.int .i64 a,.int .i64 b,.int .i64 g] h fun v h'=>v=.bool (zCo a b g)∧h'=h:=by
 have e:=i
 have f:=j
 unfold I64 at e f
 refine zdn (fun A W=>by simp) Tryz.func269 rfl rfl (by simp) fun W0=>?_
 refine Wk ?_
 refine zc9 rfl (fun d=>?_) (fun d=>?_)
 ·refine Wk ?_
  obtain ⟨c,h2⟩:=Bool.and_eq_true_iff.1 d
  have c:min a b < 0:=JE c
  have h2:IntKind.i64.wrap (min a b+9223372036854775807) < max a b:=JE h2
  rw [zjz (by omega)] at h2
  rw [zCo,decide_eq_false (by omega)]
 ·refine Wk ?_
  have l:max a b - min a b≤9223372036854775807:=by
   rcases Bool.and_eq_false_iff.1 d with c|h2
   ·have c:¬ min a b < 0:=JF c
    omega
   ·have h2:¬ IntKind.i64.wrap (min a b+9223372036854775807) < max a b:=JF h2
    by_cases h0:min a b < 0
    ·rw [zjz (by omega)] at h2;omega
    ·omega
  refine congrArg Value.bool (decide_eq_decide.2 ?_)
  rw [zjz (by omega)]
theorem cf_t {a b c d:Int} (h:((decide (a < b) && decide (d < c)) || (decide (b < a) && decide (c < d)))=true):(a < b∧d < c)∨(b < a∧c < d):=by simpa using h
theorem cf_f {a b c d:Int} (h:((decide (a < b) && decide (d < c)) || (decide (b < a) && decide (c < d)))=false):¬ ((a < b∧d < c)∨(b < a∧c < d)):=by
 intro H
 have:((decide (a < b) && decide (d < c)) || (decide (b < a) && decide (c < d)))=true:=by simpa using H
 rw [this] at h;cases h
theorem zCy {a b n:Int} (h:(a != b || !(decide (0≤a) && decide (a < n)))=true):¬ (a=b∧0≤a∧a < n):=by
 intro ⟨h1,h2,h3⟩
 rw [JG h2,JG h3,h1] at h
 simp at h
theorem zCz {a b n:Int} (h:(a != b || !(decide (0≤a) && decide (a < n)))=false):a=b∧0≤a∧a < n:=by
 simpa using h
theorem zCA {a b n:Int} (h:(!(decide (0≤a) && decide (a≤n - 1)) || a != b)=true):¬ (a=b∧0≤a∧a < n):=by
 intro ⟨h1,h2,h3⟩
 rw [JG h2,JG (show a≤n - 1 by omega),h1] at h
 simp at h
theorem zCB {a b n:Int} (h:(!(decide (0≤a) && decide (a≤n - 1)) || a != b)=false):a=b∧0≤a∧a < n:=by
 have:a=b∧0≤a∧a≤n - 1:=by
  rcases Bool.or_eq_false_iff.1 h with ⟨c,h2⟩
  refine ⟨by simpa using h2,?_⟩
  simpa using c
 omega
theorem zCC (x:DChart) (r:DRegime) (p q:DPassage) (h:Hp) (f:jD h x) (u:zBC r=true) (w:jD h p) (y:jD h q):Ct jV 169 [x.v,r.v,p.v,q.v] h fun v h'=>v=.int .i64 (zCp (jK x) r p q)∧h'=h:=by
 have G:=f.2.max
 have s:(jK x).segments=x.segments.l:=zCd x
 have z:0≤r.gap∧r.gap≤60:=by rw [zBC,In,jJ,JD,JD] at u;exact u
 refine zdn (fun A W=>by simp) Tryz.func169 rfl rfl (by simp) fun W0=>?_
 repeat' first|refine Wa ?_|refine zhF (fun _=>zAD _ _ _) ?_|refine zhF (fun _=>zCu p q _) ?_|(simp only [go_sem,jq,jj,jy,jv,jk,jx];try rfl)|refine Wb ?_|fail
 refine zc9 rfl (fun j=>?_) (fun j=>?_)
 ·have j:=zCy j
  refine Wk ?_
  rw [zCp,s,if_pos j]
 obtain ⟨F,k,m⟩:=zCz j
 have b:zCp (jK x) r p q=if p.ship=q.ship then (if Ov p q=true then 1 else 0)
  else if p.toward ≠ q.toward then (if (Ov p q && (r.noMeet || !(x.segments.l.getD p.seg.toNat dG).meet))=true then 2 else 0)
  else if (zCo p.start q.start r.gap || zCo p.fin q.fin r.gap)=true then 3
  else if (p.start < q.start∧q.fin < p.fin)∨(q.start < p.start∧p.fin < q.fin) then 4 else 0:=by
  rw [zCp,s,if_neg (fun H=>H ⟨F,k,m⟩)]
 have d:p.seg.toNat < x.segments.l.length:=by omega
 have D:x.segments.l.getD p.seg.toNat dG=x.segments.l[p.seg.toNat]:=by rw [ja,qX d];rfl
 rw [D] at b
 by_cases g:p.ship=q.ship
 ·rw [if_pos g] at b
  have i:(p.ship == q.ship)=true:=beq_iff_eq.2 g
  cases e:Ov p q with
  | true =>
   rw [e] at b
   repeat' first|refine Wa ?_|refine zhF (fun _=>zCu p q _) ?_|(simp only [go_sem,jq,jj,jy,jv,jk,jx,i,e,uk];try rfl)|refine Wb ?_|fail
   refine zc9 rfl (fun a=>?_) (fun a=>?_)
   case refine_2=>cases a
   refine Wk ?_
   rw [b];rfl
  | false =>
   rw [e] at b
   repeat' first|refine Wa ?_|refine zhF (fun _=>zCu p q _) ?_|(simp only [go_sem,jq,jj,jy,jv,jk,jx,i,e,qP];try rfl)|refine Wb ?_|fail
   refine zc9 rfl (fun a=>?_) (fun a=>?_)
   ·cases a
   repeat' first|refine Wa ?_|(simp only [go_sem,jq,jj,jy,jv,jk,jx,i];try rfl)|refine Wb ?_|fail
   refine zc9 rfl (fun a=>?_) (fun a=>?_)
   case refine_2=>cases a
   refine Wk ?_
   rw [b];rfl
 rw [if_neg g] at b
 have i:(p.ship == q.ship)=false:=beq_eq_false_iff_ne.2 g
 repeat' first|refine Wa ?_|refine zhF (fun _=>zCu p q _) ?_|(simp only [go_sem,jq,jj,jy,jv,jk,jx,i,qc];try rfl)|refine Wb ?_|fail
 have t:(p.toward ≠ q.toward) ↔ (p.toward == q.toward)=false:=by cases p.toward <;> cases q.toward <;> simp
 refine zc9 rfl (fun a=>?_) (fun a=>?_)
 ·cases a
 repeat' first|refine Wa ?_|(simp only [go_sem,jq,jj,jy,jv,jk,jx,i];try rfl)|refine Wb ?_|fail
 refine zc9 rfl (fun a=>?_) (fun a=>?_)
 ·cases a
 cases c:(p.toward == q.toward) with
 | false =>
  rw [if_pos (t.2 c)] at b
  cases e:Ov p q with
  | false =>
   rw [e] at b
   repeat' first|refine Wa ?_|refine zhF (fun _=>zCu p q _) ?_|(simp only [go_sem,jq,jj,jy,jv,jk,jx,c,qW,uy,false_implies,Jg,JA,JB,JC,wq,wj,e,qP,qc];try rfl)|refine Wb ?_|fail
   refine zc9 rfl (fun a=>?_) (fun a=>?_)
   ·cases a
   repeat' first|refine Wa ?_|(simp only [go_sem,jq,jj,jy,jv,jk,jx,c,wq,wj];try rfl)|refine Wb ?_|fail
   refine zc9 rfl (fun a=>?_) (fun a=>?_)
   case refine_2=>cases a
   refine Wk ?_
   rw [b];rfl
  | true =>
   rw [e] at b
   cases n:r.noMeet with
   | true =>
    rw [n] at b
    repeat' first|refine Wa ?_|refine zhF (fun _=>zCu p q _) ?_|(simp only [go_sem,jq,jj,jy,jv,jk,jx,c,qW,uy,false_implies,Jg,JA,JB,JC,wq,wj,e,n,wJ,qp,yw,uk];try rfl)|refine Wb ?_|fail
    refine zc9 rfl (fun a=>?_) (fun a=>?_)
    case refine_2=>cases a
    refine Wk ?_
    rw [b];rfl
   | false =>
    rw [n] at b
    cases o:x.segments.l[p.seg.toNat].meet with
    | true =>
     rw [o] at b
     repeat' first|refine Wa ?_|refine zhF (fun _=>zCu p q _) ?_|(simp only [go_sem,jq,jj,jy,jv,jk,jx,c,qW,uy,false_implies,Jg,JA,JB,JC,wq,wj,e,n,o,wJ,qp,yw,uk,zm7 f.2 d,zlh f.2 d,f.2.some d,d,k,m,jW];try rfl)|refine Wb ?_|fail
     refine zc9 rfl (fun a=>?_) (fun a=>?_)
     ·cases a
     repeat' first|refine Wa ?_|(simp only [go_sem,jq,jj,jy,jv,jk,jx,c,wq,wj];try rfl)|refine Wb ?_|fail
     refine zc9 rfl (fun a=>?_) (fun a=>?_)
     case refine_2=>cases a
     refine Wk ?_
     rw [b];rfl
    | false =>
     rw [o] at b
     repeat' first|refine Wa ?_|refine zhF (fun _=>zCu p q _) ?_|(simp only [go_sem,jq,jj,jy,jv,jk,jx,c,qW,uy,false_implies,Jg,JA,JB,JC,wq,wj,e,n,o,wJ,qp,yw,uk,zm7 f.2 d,zlh f.2 d,f.2.some d,d,k,m,jW];try rfl)|refine Wb ?_|fail
     refine zc9 rfl (fun a=>?_) (fun a=>?_)
     case refine_2=>cases a
     refine Wk ?_
     rw [b];rfl
 | true =>
  rw [if_neg (fun H=>by rw [t.1 H] at c;cases c)] at b
  repeat' first|refine Wa ?_|refine zhF (fun _=>zCu p q _) ?_|(simp only [go_sem,jq,jj,jy,jv,jk,jx,c,qW,uy,false_implies,Jg,JA,JB,JC,wq,wj,qP,qc];try rfl)|refine Wb ?_|fail
  refine zc9 rfl (fun a=>?_) (fun a=>?_)
  ·cases a
  repeat' first|refine Wa ?_|(simp only [go_sem,jq,jj,jy,jv,jk,jx,c,wq,wj];try rfl)|refine Wb ?_|fail
  refine zc9 rfl (fun a=>?_) (fun a=>?_)
  ·cases a
  repeat' first|refine Wa ?_|refine zhF (fun _=>zCw _ _ _ _ w.2.2.1 y.2.2.1 z) ?_|refine zhF (fun _=>zCw _ _ _ _ w.2.2.2 y.2.2.2 z) ?_|(simp only [go_sem,jq,jj,jy,jv,jk,jx];try rfl)|refine Wb ?_|fail
  refine zc9 rfl (fun a=>?_) (fun a=>?_)
  ·rw [if_pos a] at b
   refine Wk ?_
   rw [b]
  rw [if_neg (by rw [a];exact qa)] at b
  refine Wk ?_
  refine zc9 rfl (fun a=>?_) (fun a=>?_)
  ·refine Wk ?_
   rw [b,if_pos (cf_t a)]
  ·refine Wk ?_
   rw [b,if_neg (cf_f a)]
theorem zCD (x:DChart) (r:DRegime) (p q:DPassage) (h:Hp) (d:jD h x) (s:zBC r=true) (D:zBp (jK x)=true) (u:jD h p) (w:jD h q):Ct jV 227 [x.v,r.v,p.v,q.v] h fun v h'=>v=.int .i64 (zCp (jK x) r p q)∧h'=h:=by
 have G:=d.2.max
 have n:(jK x).segments=x.segments.l:=zCd x
 have y:0≤r.gap∧r.gap≤60:=by rw [zBC,In,jJ,JD,JD] at s;exact s
 refine zdn (fun A W=>by simp) Tryz.func227 rfl rfl (by simp) fun W0=>?_
 have t:IntKind.i64.wrap (↑x.segments.l.length - 1)=(x.segments.l.length:Int) - 1:=zjz (by omega)
 repeat' first|refine Wa ?_|refine zhF (fun _=>zAA _ _ _ _) ?_|refine zhF (fun _=>zBx x _ d) ?_|refine zhF (fun _=>zBJ r _) ?_|(simp only [go_sem,jq,jj,jy,jv,jk,jx,D,s,wj,wq,wa,qW,uy,false_implies,Jg,JA,JB,JC];try rfl)|refine Wb ?_|fail
 rw [t]
 refine zc9 rfl (fun f=>?_) (fun f=>?_)
 ·have f:=zCA f
  refine Wk ?_
  rw [zCp,n,if_pos f]
 obtain ⟨F,g,i⟩:=zCB f
 have b:zCp (jK x) r p q=if p.ship=q.ship then (if Ov p q=true then 1 else 0)
  else if p.toward ≠ q.toward then (if (Ov p q && (r.noMeet || !(x.segments.l.getD p.seg.toNat dG).meet))=true then 2 else 0)
  else if (zCo p.start q.start r.gap || zCo p.fin q.fin r.gap)=true then 3
  else if (p.start < q.start∧q.fin < p.fin)∨(q.start < p.start∧p.fin < q.fin) then 4 else 0:=by
  rw [zCp,n,if_neg (fun H=>H ⟨F,g,i⟩)]
 have c:p.seg.toNat < x.segments.l.length:=by omega
 have z:x.segments.l.getD p.seg.toNat dG=x.segments.l[p.seg.toNat]:=by rw [ja,qX c];rfl
 rw [z] at b
 have o:(p.toward ≠ q.toward) ↔ (p.toward == q.toward)=false:=by cases p.toward <;> cases q.toward <;> simp
 refine Wk ?_
 refine zc9 rfl (fun a=>?_) (fun a=>?_)
 ·rw [if_pos (eq_of_beq a)] at b
  repeat' first|refine Wa ?_|refine zhF (fun _=>zCv p q _) ?_|(simp only [go_sem,jq,jj,jy,jv,jk,jx];try rfl)|refine Wb ?_|fail
  refine zc9 rfl (fun a=>?_) (fun a=>?_)
  ·refine Wk ?_
   rw [b,if_pos a]
  ·refine Wk ?_
   rw [b,if_neg (by rw [a];exact qa)]
 rw [if_neg (fun H=>by rw [beq_iff_eq.2 H] at a;cases a)] at b
 refine Wk ?_
 cases j:(p.toward == q.toward) with
 | false =>
  rw [if_pos (o.2 j)] at b
  refine zc9 rfl (fun a=>?_) (fun a=>?_)
  case refine_2=>cases a
  cases e:Ov p q with
  | false =>
   rw [e] at b
   repeat' first|refine Wa ?_|refine zhF (fun _=>zCv p q _) ?_|(simp only [go_sem,jq,jj,jy,jv,jk,jx,wj,wq,qW,uy,false_implies,Jg,JA,JB,JC,e,qP,qc];try rfl)|refine Wb ?_|fail
   refine zc9 rfl (fun a=>?_) (fun a=>?_)
   ·cases a
   refine Wk ?_
   rw [b];rfl
  | true =>
   rw [e] at b
   cases k:r.noMeet with
   | true =>
    rw [k] at b
    repeat' first|refine Wa ?_|refine zhF (fun _=>zCv p q _) ?_|(simp only [go_sem,jq,jj,jy,jv,jk,jx,wj,wq,qW,uy,false_implies,Jg,JA,JB,JC,e,k,wJ,qp,yw,uk];try rfl)|refine Wb ?_|fail
    refine zc9 rfl (fun a=>?_) (fun a=>?_)
    case refine_2=>cases a
    refine Wk ?_
    rw [b];rfl
   | false =>
    rw [k] at b
    cases m:x.segments.l[p.seg.toNat].meet with
    | true =>
     rw [m] at b
     repeat' first|refine Wa ?_|refine zhF (fun _=>zCv p q _) ?_|(simp only [go_sem,jq,jj,jy,jv,jk,jx,wj,wq,qW,uy,false_implies,Jg,JA,JB,JC,e,k,m,wJ,qp,yw,uk,zm7 d.2 c,zlh d.2 c,d.2.some c,c,g,i,jW];try rfl)|refine Wb ?_|fail
     refine zc9 rfl (fun a=>?_) (fun a=>?_)
     ·cases a
     refine Wk ?_
     rw [b];rfl
    | false =>
     rw [m] at b
     repeat' first|refine Wa ?_|refine zhF (fun _=>zCv p q _) ?_|(simp only [go_sem,jq,jj,jy,jv,jk,jx,wj,wq,qW,uy,false_implies,Jg,JA,JB,JC,e,k,m,wJ,qp,yw,uk,zm7 d.2 c,zlh d.2 c,d.2.some c,c,g,i,jW];try rfl)|refine Wb ?_|fail
     refine zc9 rfl (fun a=>?_) (fun a=>?_)
     case refine_2=>cases a
     refine Wk ?_
     rw [b];rfl
 | true =>
  rw [if_neg (fun H=>by rw [o.1 H] at j;cases j)] at b
  refine zc9 rfl (fun a=>?_) (fun a=>?_)
  ·cases a
  repeat' first|refine Wa ?_|refine zhF (fun _=>zCx _ _ _ _ u.2.2.1 w.2.2.1 y) ?_|refine zhF (fun _=>zCx _ _ _ _ u.2.2.2 w.2.2.2 y) ?_|(simp only [go_sem,jq,jj,jy,jv,jk,jx];try rfl)|refine Wb ?_|fail
  refine zc9 rfl (fun a=>?_) (fun a=>?_)
  ·rw [if_pos a] at b
   refine Wk ?_
   rw [b]
  rw [if_neg (by rw [a];exact qa)] at b
  refine Wk ?_
  refine zc9 rfl (fun a=>?_) (fun a=>?_)
  ·refine Wk ?_
   rw [b,if_pos (cf_t a)]
  ·refine Wk ?_
   rw [b,if_neg (cf_f a)]
def zCE (l:List DSurge) (m:Int):Nat→Nat
 | 0=>0
 | k+1=>if (l.getD k dS).src≤m then k else zCE l m k
def zCF (l:List DSurge) (m:Int):Nat:=zCE l m l.length
theorem zCG {l:List DSurge} {m:Int}:∀ {k:Nat},0 < k→zCE l m k < k
 | k+1,_=>by
  unfold zCE
  split
  ·omega
  ·rcases we k with rfl|h
   ·exact Nat.zero_lt_one
   ·have:=zCG (l:=l) (m:=m) h;omega
theorem zCH {l:List DSurge} {m:Int} (h:0 < l.length):zCF l m < l.length:=zCG h
theorem zCI {l:List DSurge} {m:Int} {k:Nat} (a:k < l.length) (h:l[k].src≤m):zCE l m (k+1)=k:=by rw [zCE,sget a,if_pos h]
theorem zCJ {l:List DSurge} {m:Int} {k:Nat} (a:k < l.length) (h:¬ l[k].src≤m):zCE l m (k+1)=zCE l m k:=by rw [zCE,sget a,if_neg h]
theorem zCK {f:PForecast} (h:zBb f=true):0 < f.surges.length:=by
 simp only [zBb,In,jJ,JD] at h
 omega
theorem zCL (f:DForecast):(jK f).surges=f.surges.l:=zBc _
def zCM (n p:Int):Int :=
 if zAP p=true then
  (if n % p < yY p 2 then IntKind.i64.wrap (yY (IntKind.i64.wrap (IntKind.i64.wrap (40000 * (n % p)) * IntKind.i64.wrap (yY p 2 - n % p))) (IntKind.i64.wrap (yY p 2 * yY p 2)))
   else IntKind.i64.wrap (0 - IntKind.i64.wrap (yY (IntKind.i64.wrap (IntKind.i64.wrap (40000 * IntKind.i64.wrap (n % p - yY p 2)) * IntKind.i64.wrap (yY p 2 - IntKind.i64.wrap (n % p - yY p 2)))) (IntKind.i64.wrap (yY p 2 * yY p 2)))))
 else 0
def zCN (m:Int) (acc:Int) (p:DPart):Int:=IntKind.i64.wrap (acc+IntKind.i64.wrap (yY (IntKind.i64.wrap (p.amp * zCM (IntKind.i64.wrap (m+p.phase)) p.period)) 10000))
def zCO (t:PTide) (m:Int):Int:=t.parts.foldl (zCN m) t.mean
def zCP (f:PForecast) (m:Int):Int:=IntKind.i64.wrap (zCO f.tide m+(f.surges.getD (zCF f.surges m) dS).low)
theorem zCQ (f:DForecast) (m:Int) (h:Hp) (i:jD h f):Ct jV 150 [f.v,.int .i64 m] h fun v h'=>v=.int .i64 (zCF f.surges.l m:Nat)∧h'=h:=by
 have d:=i.2
 have n:=d.max
 refine zdn (fun A W=>by simp) Tryz.func150 rfl rfl (by simp) fun W0=>?_
 refine Wk ?_
 refine zde (ι:=Nat) (fun k=>⟨[(1,true,.c (.v (.int .i64 m))),(5,true,.c (.v (.int .i64 (zCE f.surges.l m k:Nat)))),(9,true,.c (.v f.surges.val)),(10,true,.c (.v (.int .i64 f.surges.l.length))),(11,true,.c (.v (.int .i64 k)))],[],h,0⟩) (fun k=>k≤f.surges.l.length) (fun k=>f.surges.l.length - k) 0 (jC _) ?_ ?_
 ·refine Evs ?_
  exact Gk
 intro k j
 refine Wk ?_
 refine zc9 rfl (fun b=>?_) (fun b=>?_)
 ·have a:=zjH b
  repeat' first|refine Wa ?_|(simp only [go_sem,jq,jj,jy,jv,jk,jx,zk9 d a,d.some a,a,jW];try rfl)|refine Wb ?_|fail
  refine zc9 rfl (fun e=>?_) (fun e=>?_)
  ·refine Wk ?_
   refine ⟨k+1,a,by omega,zjB ?_,zjB (zjA a (by omega))⟩
   rw [zCI a (JE e)]
  ·refine Wk ?_
   refine ⟨k+1,a,by omega,zjB ?_,zjB (zjA a (by omega))⟩
   rw [zCJ a (JF e)]
 ·have g:=zjI b
  refine Wk ?_
  rw [zCF,wE g j]
theorem zCR (f:DForecast) (m:Int) (h:Hp) (o:jD h f) (h0:0 < f.surges.l.length):Ct jV 66 [f.v,.int .i64 m] h fun v h'=>v=(f.surges.l.getD (zCF f.surges.l m) dS).v∧h'=h:=by
 have b:=o.2
 have r:=b.max
 have i:(0:Int) < f.surges.l.length:=by omega
 have j:=b.some h0
 have e:=zk9 b h0
 simp only [go_sem,jA] at e
 refine Ct.forget ?_
 refine zdn (fun A W=>by simp) Tryz.func66 rfl rfl (by simp) fun W0=>?_
 repeat' first|refine Wa ?_|(simp only [go_sem,jq,jj,jy,jv,jk,jx,j,e,i,je,jA,qF,Jg,JA,JB];try rfl)|refine Wb ?_|fail
 refine zde (ι:=Nat) (fun k=>⟨[(1,true,.c (.v (.int .i64 m))),(4,true,.c (.p 1 0)),(5,true,.c (.p 2 0)),(13,true,.c (.v f.surges.val)),(14,true,.c (.v (.int .i64 f.surges.l.length))),(15,true,.c (.v (.int .i64 k)))],[(1,.box 125 [.v (.int .i64 0),.v (.int .i64 0),.v (.int .i64 0)]),(2,.box 125 [.v (.int .i64 (f.surges.l.getD (zCE f.surges.l m k) dS).src),.v (.int .i64 (f.surges.l.getD (zCE f.surges.l m k) dS).low),.v (.int .i64 (f.surges.l.getD (zCE f.surges.l m k) dS).high)])],h,3⟩) (fun k=>k≤f.surges.l.length) (fun k=>f.surges.l.length - k) 0 (jC _) ?_ ?_
 ·refine Evs ?_
  rw [zCE,sget h0]
  exact Gk
 intro k q
 refine Wk ?_
 refine zc9 rfl (fun d=>?_) (fun d=>?_)
 ·have a:=zjH d
  repeat' first|refine Wa ?_|(simp only [go_sem,jq,jj,jy,jv,jk,jx,zk9 b a,b.some a,a,jW];try rfl)|refine Wb ?_|fail
  refine zc9 rfl (fun g=>?_) (fun g=>?_)
  ·refine Wk ?_
   refine ⟨k+1,a,by omega,?_⟩
   rw [zCI a (JE g),sget a]
   refine ⟨zjB (zjA a (by omega)),?_⟩
   exact Gk
  ·refine Wk ?_
   refine ⟨k+1,a,by omega,?_⟩
   rw [zCJ a (JF g)]
   refine ⟨zjB (zjA a (by omega)),?_⟩
   exact Gk
 ·have n:=zjI d
  refine Wk ?_
  rw [zCF,wE n q]
  try rfl
theorem zCS {p:Int} (h:zAP p=true):4≤p∧p≤2880∧Jx p 4=0:=by
 simp only [zAP,In,jJ,JD,beq_iff_eq] at h
 exact ⟨h.1.1,h.1.2,h.2⟩
theorem zCT {n p:Int} (h:4≤p∧p≤2880):IntKind.i64.wrap (Jx n p+p)=Jx n p+p∧Jx (Jx n p+p) p=n % p∧(if Jx n p < 0 then Jx n p+p else Jx n p)=n % p∧-p < Jx n p∧Jx n p < p:=by
 have b:-p < Jx n p∧Jx n p < p:=by
  have:=Int.tmod_lt_of_pos n (show 0 < p by omega)
  have h2:=Int.lt_tmod_of_pos n (show 0 < p by omega)
  omega
 have a:Jx n p=n % p∨Jx n p=n % p - p:=by
  rw [Int.tmod_eq_emod]
  split
  ·left;omega
  ·right;omega
 have c:=Int.emod_nonneg n (show p ≠ 0 by omega)
 have d:=Int.emod_lt_of_pos n (show 0 < p by omega)
 refine ⟨zjz (by omega),?_,?_,b⟩
 ·rw [Int.tmod_eq_emod_of_nonneg (by omega),Int.add_emod_right]
  rcases a with a|a
  ·rw [a,Int.emod_emod_of_dvd _ (Int.dvd_refl p)]
  ·rw [a,Int.sub_emod_right];exact Int.emod_emod_of_dvd _ (Int.dvd_refl p)
 ·split <;> omega
theorem zCU (n p:Int) (h:Hp):Ct jV 323 [.int .i64 n,.int .i64 p] h fun v h'=>v=.int .i64 (zCM n p)∧h'=h:=by
 refine zdn (fun A W=>by simp) Tryz.func323 rfl rfl (by simp) fun W0=>?_
 repeat' first|refine Wa ?_|refine zhF (fun _=>zAQ _ _) ?_|(simp only [go_sem,jq,jj,jy,jv,jk,jx];try rfl)|refine Wb ?_|fail
 refine zc9 rfl (fun a=>?_) (fun a=>?_)
 ·rw [jd] at a
  refine Wk ?_
  rw [zCM,if_neg (by rw [a];exact qa)]
 rw [jf] at a
 obtain ⟨j,h2,o⟩:=zCS a
 obtain ⟨k,l,q,r⟩:=zCT (n:=n) ⟨j,h2⟩
 have g:¬ p=0:=by omega
 have c:0 < yY p 2∧yY p 2≤1440:=by rw [Int.tdiv_eq_ediv_of_nonneg (by omega)];omega
 have e:IntKind.i64.wrap (yY p 2)=yY p 2:=zjz (by omega)
 have s:=Int.mul_le_mul c.2 c.2 (by omega) (by decide)
 have m:=Int.mul_pos c.1 c.1
 have b:IntKind.i64.wrap (yY p 2 * yY p 2)=yY p 2 * yY p 2:=zjz (by omega)
 have d:¬ yY p 2 * yY p 2=0:=by omega
 have i:¬ (2:Int)=0:=by decide
 repeat' first|refine Wa ?_|(simp only [go_sem,jq,jj,jy,jv,jk,jx,k,l,g,e,i,not_false_eq_true,Jg,JA];try rfl)|refine Wb ?_|fail
 refine zc9 rfl (fun f=>?_) (fun f=>?_)
 ·repeat' first|refine Wa ?_|(simp only [go_sem,jq,jj,jy,jv,jk,jx,e,b,d,not_false_eq_true,Jg,JA];try rfl)|refine Wb ?_|fail
  rw [zCM,if_pos a,if_neg (by have:=JE f;omega),b]
 ·repeat' first|refine Wa ?_|(simp only [go_sem,jq,jj,jy,jv,jk,jx,e,b,d,not_false_eq_true,Jg,JA];try rfl)|refine Wb ?_|fail
  rw [zCM,if_pos a,if_pos (by have:=JF f;omega),b]
theorem zCV (n p:Int) (h:Hp):Ct jV 321 [.int .i64 n,.int .i64 p] h fun v h'=>v=.int .i64 (zCM n p)∧h'=h:=by
 have r:¬ (4:Int)=0:=by decide
 have m:¬ (2:Int)=0:=by decide
 refine zdn (fun A W=>by simp) Tryz.func321 rfl rfl (by simp) fun W0=>?_
 repeat' first|refine Wa ?_|(simp only [go_sem,jq,jj,jy,jv,jk,jx,r,not_false_eq_true,Jg,JA];try rfl)|refine Wb ?_|fail
 refine zc9 rfl (fun b=>?_) (fun b=>?_)
 ·refine Wk ?_
  rw [zCM,if_neg]
  intro e
  obtain ⟨s,h2,t⟩:=zCS e
  rw [jQ,jQ] at b
  rcases b with (b|b)|b
  ·have:=JE b;omega
  ·have:=JE b;omega
  ·exact zjD b t
 have i:zAP p=true:=by
  obtain ⟨b,u⟩:=Bool.or_eq_false_iff.1 b
  obtain ⟨o,q⟩:=Bool.or_eq_false_iff.1 b
  have o:=JF o
  have q:=JF q
  simp only [zAP,In,jJ,JD,beq_iff_eq]
  exact ⟨⟨by omega,by omega⟩,zjE u⟩
 obtain ⟨s,h2,t⟩:=zCS i
 obtain ⟨w,D,k,F⟩:=zCT (n:=n) ⟨s,h2⟩
 have j:¬ p=0:=by omega
 have l:0 < yY p 2∧yY p 2≤1440:=by rw [Int.tdiv_eq_ediv_of_nonneg (by omega)];omega
 have g:IntKind.i64.wrap (yY p 2)=yY p 2:=zjz (by omega)
 have G:=Int.mul_le_mul l.2 l.2 (by omega) (by decide)
 have z:=Int.mul_pos l.1 l.1
 have a:IntKind.i64.wrap (yY p 2 * yY p 2)=yY p 2 * yY p 2:=zjz (by omega)
 have f:¬ yY p 2 * yY p 2=0:=by omega
 repeat' first|refine Wa ?_|(simp only [go_sem,jq,jj,jy,jv,jk,jx,j,not_false_eq_true,Jg,JA];try rfl)|refine Wb ?_|fail
 have fin:∀ x:Int,x=n % p→True:=fun _ _=>trivial
 refine zc9 rfl (fun c=>?_) (fun c=>?_)
 ·have c:=JE c
  rw [if_pos c] at k
  have y:IntKind.i64.wrap (n.tmod p+p)=n % p:=by rw [w,k]
  repeat' first|refine Wa ?_|(simp only [go_sem,jq,jj,jy,jv,jk,jx,j,g,m,y,not_false_eq_true,Jg,JA];try rfl)|refine Wb ?_|fail
  refine zc9 rfl (fun d=>?_) (fun d=>?_)
  ·repeat' first|refine Wa ?_|(simp only [go_sem,jq,jj,jy,jv,jk,jx,g,a,f,not_false_eq_true,Jg,JA];try rfl)|refine Wb ?_|fail
   rw [zCM,if_pos i,if_pos (JE d),a]
  ·repeat' first|refine Wa ?_|(simp only [go_sem,jq,jj,jy,jv,jk,jx,g,a,f,not_false_eq_true,Jg,JA];try rfl)|refine Wb ?_|fail
   rw [zCM,if_pos i,if_neg (JF d),a]
 ·have c:=JF c
  rw [if_neg c] at k
  repeat' first|refine Wa ?_|(simp only [go_sem,jq,jj,jy,jv,jk,jx,j,g,m,k,not_false_eq_true,Jg,JA];try rfl)|refine Wb ?_|fail
  refine zc9 rfl (fun d=>?_) (fun d=>?_)
  ·repeat' first|refine Wa ?_|(simp only [go_sem,jq,jj,jy,jv,jk,jx,g,a,f,not_false_eq_true,Jg,JA];try rfl)|refine Wb ?_|fail
   rw [zCM,if_pos i,if_pos (JE d),a]
  ·repeat' first|refine Wa ?_|(simp only [go_sem,jq,jj,jy,jv,jk,jx,g,a,f,not_false_eq_true,Jg,JA];try rfl)|refine Wb ?_|fail
   rw [zCM,if_pos i,if_neg (JF d),a]
theorem zCW {α β:Type} {f:β→α→β} {b:β} {l:List α} {k:Nat} (a:k < l.length):(l.take (k+1)).foldl f b=f ((l.take k).foldl f b) l[k]:=by rw [qw a,yp];rfl
theorem zCX (t:DTide) (m:Int) (h:Hp) (g:jD h t):Ct jV 314 [t.v,.int .i64 m] h fun v h'=>v=.int .i64 (zCO (jK t) m)∧h'=h:=by
 have e:=g.2
 have j:=e.max
 rw [zCO,show (jK t).mean=t.mean from rfl,show (jK t).parts=t.parts.l from zA5 _]
 refine zdn (fun A W=>by simp) Tryz.func314 rfl rfl (by simp) fun W0=>?_
 refine Wk ?_
 refine zde (ι:=Nat) (fun k=>⟨[(1,true,.c (.v (.int .i64 m))),(5,true,.c (.v (.int .i64 ((t.parts.l.take k).foldl (zCN m) t.mean)))),(11,true,.c (.v t.parts.val)),(12,true,.c (.v (.int .i64 t.parts.l.length))),(13,true,.c (.v (.int .i64 k)))],[],h,0⟩) (fun k=>k≤t.parts.l.length) (fun k=>t.parts.l.length - k) 0 (jC _) ?_ ?_
 ·refine Evs ?_
  exact Gk
 intro k n
 refine Wk ?_
 refine zc9 rfl (fun d=>?_) (fun d=>?_)
 ·have a:=zjH d
  have i:=e.el a
  repeat' first|refine Wa ?_|(simp only [go_sem,jq,jj,jy,jv,jk,jx,zk4 e a,e.some a,a,jW];try rfl)|refine Wb ?_|fail
  have b:¬ (10000:Int)=0:=by decide
  refine zz5 rfl ?_
  refine U_t [0,1,3,4,7,2,5,8,6] rfl ?_
  simp only [go_sem,jq,jj,jy,jv,jk,jx,b,not_false_eq_true,Jg]
  refine U_1 9 0 [2,1] rfl rfl ?_
  simp only [go_sem,jq,jj,jy,jv,jk,jx,b,not_false_eq_true,Jg]
  refine zhF (fun _=>zCU _ _ _) ?_
  simp only [go_sem,jq,jj,jy,jv,jk,jx,b,not_false_eq_true,Jg]
  refine U_t [10,11,12,13] rfl ?_
  simp only [go_sem,jq,jj,jy,jv,jk,jx,b,not_false_eq_true,Jg]
  refine U_d ?_
  refine Wk ?_
  refine ⟨k+1,a,by omega,zjB ?_,zjB (zjA a (by omega))⟩
  rw [zCW a]
  rfl
 ·have f:=zjI d
  refine Wk ?_
  rw [qy f]
theorem zCY (t:DTide) (m:Int) (h:Hp) (g:jD h t):Ct jV 311 [t.v,.int .i64 m] h fun v h'=>v=.int .i64 (zCO (jK t) m)∧h'=h:=by
 have e:=g.2
 have j:=e.max
 rw [zCO,show (jK t).mean=t.mean from rfl,show (jK t).parts=t.parts.l from zA5 _]
 refine zdn (fun A W=>by simp) Tryz.func311 rfl rfl (by simp) fun W0=>?_
 refine Wk ?_
 refine zde (ι:=Nat) (fun k=>⟨[(1,true,.c (.v (.int .i64 m))),(5,true,.c (.v (.int .i64 ((t.parts.l.take k).foldl (zCN m) t.mean)))),(11,true,.c (.v t.parts.val)),(12,true,.c (.v (.int .i64 t.parts.l.length))),(13,true,.c (.v (.int .i64 k)))],[],h,0⟩) (fun k=>k≤t.parts.l.length) (fun k=>t.parts.l.length - k) 0 (jC _) ?_ ?_
 ·refine Evs ?_
  exact Gk
 intro k n
 refine Wk ?_
 refine zc9 rfl (fun d=>?_) (fun d=>?_)
 ·have a:=zjH d
  have i:=e.el a
  repeat' first|refine Wa ?_|(simp only [go_sem,jq,jj,jy,jv,jk,jx,zk4 e a,e.some a,a,jW];try rfl)|refine Wb ?_|fail
  have b:¬ (10000:Int)=0:=by decide
  refine zz5 rfl ?_
  refine U_t [0,1,3,4,7,2,5,8,6] rfl ?_
  simp only [go_sem,jq,jj,jy,jv,jk,jx,b,not_false_eq_true,Jg]
  refine U_1 9 0 [2,1] rfl rfl ?_
  simp only [go_sem,jq,jj,jy,jv,jk,jx,b,not_false_eq_true,Jg]
  refine zhF (fun _=>zCV _ _ _) ?_
  simp only [go_sem,jq,jj,jy,jv,jk,jx,b,not_false_eq_true,Jg]
  refine U_t [10,11,12,13] rfl ?_
  simp only [go_sem,jq,jj,jy,jv,jk,jx,b,not_false_eq_true,Jg]
  refine U_d ?_
  refine Wk ?_
  refine ⟨k+1,a,by omega,zjB ?_,zjB (zjA a (by omega))⟩
  rw [zCW a]
  rfl
 ·have f:=zjI d
  refine Wk ?_
  rw [qy f]
theorem zCZ (f:DForecast) (m:Int) (h:Hp) (d:jD h f) (h0:0 < f.surges.l.length):Ct jV 298 [f.v,.int .i64 m] h fun v h'=>v=.int .i64 (zCP (jK f) m)∧h'=h:=by
 have b:=d.2
 have a:=zCH (m:=m) h0
 have c:((zCF f.surges.l m:Nat):Int) < f.surges.l.length:=by omega
 rw [zCP,zCL,sget a]
 refine zdn (fun A W=>by simp) Tryz.func298 rfl rfl (by simp) fun W0=>?_
 refine Wk ?_
 refine zz5 rfl ?_
 refine U_t [0,2,4,6,7,1,5] rfl ?_
 simp only [go_sem,jq,jj,jy,jv,jk,jx,zm5 b a,b.some a,a,c,jW,jY]
 refine U_1 3 0 [5,6,4] rfl rfl ?_
 simp only [go_sem,jq,jj,jy,jv,jk,jx,zm5 b a,b.some a,a,c,jW,jY]
 refine zhF (fun _=>zCX _ _ _ d.1) ?_
 simp only [go_sem,jq,jj,jy,jv,jk,jx,zm5 b a,b.some a,a,c,jW,jY]
 refine U_1 8 0 [5,4] rfl rfl ?_
 simp only [go_sem,jq,jj,jy,jv,jk,jx,zm5 b a,b.some a,a,c,jW,jY]
 refine zhF (fun _=>zCQ f _ _ d) ?_
 simp only [go_sem,jq,jj,jy,jv,jk,jx,zm5 b a,b.some a,a,c,jW,jY]
 refine U_t [9,10,11,12,13] rfl ?_
 simp only [go_sem,jq,jj,jy,jv,jk,jx,zm5 b a,b.some a,a,c,jW,jY]
 refine U_d ?_
 exact Wk0
theorem i64w (n:Int):I64 (IntKind.i64.wrap n):=by rw [w64];unfold I64;omega
def dW:DWindow:=⟨0,0⟩
theorem wget {l:List DWindow} {i:Nat} (a:i < l.length):l.getD i dW=l[i]:=by simp [ja,a]
def zC3 (l:List DWindow) (i:Nat):Bool:=decide ((0≤(l.getD i dW).src∧(l.getD i dW).src≤(l.getD i dW).dst∧(l.getD i dW).dst≤2880)∧(0 < i→IntKind.i64.wrap ((l.getD (i - 1) dW).dst+1) < (l.getD i dW).src))
def zC4 (l:List DWindow):Bool:=decide (∀ i,i < l.length→zC3 l i=true)
def zC5 (l:List DWindow) (m:Int):Bool:=l.any fun w=>In m w.src w.dst
def zC6 (l:List DWindow) (m:Int):Int:=if zC4 l=true then (match l.find? (fun w=>decide (m≤w.dst)) with|some w=>max w.src m|none=>-1) else -1
def shr (n:Int) (w:DWindow):Bool:=decide (n≤IntKind.i64.wrap (w.dst - w.src))
def shw (n:Int) (w:DWindow):DWindow:=⟨w.src,IntKind.i64.wrap (w.dst - n)⟩
def zC7 (l:List DWindow) (n:Int):List DWindow:=if zC4 l=true∧0≤n∧n≤2880 then (l.filter (shr n)).map (shw n) else []
theorem zC8 (a:Sl DWindow) (h:Hp) (d:a.Ok h):Ct jV 274 [a.val] h fun v h'=>v=.bool (zC4 a.l)∧h'=h:=by
 have q:=d.max
 rw [zC4]
 refine zdn (fun A W=>by simp) Tryz.func274 rfl rfl (by simp) fun W0=>?_
 refine Wk ?_
 refine zde (ι:=Nat) (fun k=>⟨[(0,true,.c (.v a.val)),(5,true,.c (.v a.val)),(6,true,.c (.v (.int .i64 a.l.length))),(7,true,.c (.v (.int .i64 k)))],[],h,0⟩) (fun k=>k≤a.l.length∧∀ i,i < k→zC3 a.l i=true) (fun k=>a.l.length - k) 0 ⟨jC _,zBu⟩ ?_ ?_
 ·refine Evs ?_
  exact Gk
 intro k o
 refine Wk ?_
 refine zc9 rfl (fun n=>?_) (fun n=>?_)
 ·have f:=zjH n
  rcases we k with h0|h0
  ·have g:(0 < (k:Int))=False:=eq_false (by omega)
   repeat' first|refine Wa ?_|(simp (maxSteps:=2000000) only [go_sem,jq,jj,jy,jv,jk,jx,zlA d f,d.some f,f,jW];try rfl)|refine Wb ?_|fail
   refine zz5 rfl ?_
   refine U_t [0,1] rfl ?_
   simp (maxSteps:=2000000) only [go_sem,jq,jj,jy,jv,jk,jx,g,decide_false,qP,qc,wC,qW,false_implies,Jg,JA,JB,reduceCtorEq]
   refine U_1 2 0 [] rfl rfl ?_
   simp (maxSteps:=2000000) only [go_sem,jq,jj,jy,jv,jk,jx,g,decide_false,qP,qc,wC,qW,false_implies,Jg,JA,JB,reduceCtorEq]
   refine zhF (fun _=>zAA _ _ _ _) ?_
   simp (maxSteps:=2000000) only [go_sem,jq,jj,jy,jv,jk,jx,g,decide_false,qP,qc,wC,qW,false_implies,Jg,JA,JB,reduceCtorEq]
   refine U_t [3,4,5,7,6,8] rfl ?_
   simp (maxSteps:=2000000) only [go_sem,jq,jj,jy,jv,jk,jx,g,decide_false,qP,qc,wC,qW,false_implies,Jg,JA,JB,reduceCtorEq]
   refine U_1 9 0 [] rfl rfl ?_
   simp (maxSteps:=2000000) only [go_sem,jq,jj,jy,jv,jk,jx,g,decide_false,qP,qc,wC,qW,false_implies,Jg,JA,JB,reduceCtorEq]
   refine zhF (fun _=>zAA _ _ _ _) ?_
   simp (maxSteps:=2000000) only [go_sem,jq,jj,jy,jv,jk,jx,g,decide_false,qP,qc,wC,qW,false_implies,Jg,JA,JB,reduceCtorEq]
   refine U_t [10,11,12,13,14,15,16,18,19,17,20,21,22,23,24,25,26,27] rfl ?_
   simp (maxSteps:=2000000) only [go_sem,jq,jj,jy,jv,jk,jx,g,decide_false,qP,qc,wC,qW,false_implies,Jg,JA,JB,reduceCtorEq]
   refine U_d ?_
   refine Wk ?_
   refine zc9 rfl (fun j=>?_) (fun j=>?_)
   ·refine Wk ?_
    rw [zBr f (decide_eq_false (by rw [wget f];intro e;simp only [jQ,jd,qA,JD,JH] at j;omega))]
   ·refine Wk ?_
    refine ⟨k+1,⟨f,zBs o.2 (JG (by rw [wget f];simp only [jp,jf,jJ,JD,JH] at j;exact ⟨by omega,fun e=>by omega⟩))⟩,by omega,zjB (zjA f (by omega))⟩
  ·have b:k - 1 < a.l.length:=by omega
   have m:IntKind.i64.wrap ((k:Int) - 1)=((k - 1:Nat):Int):=by rw [zjz (by omega)];omega
   have g:(0 < (k:Int))=True:=eq_true (by omega)
   repeat' first|refine Wa ?_|(simp (maxSteps:=2000000) only [go_sem,jq,jj,jy,jv,jk,jx,zlA d f,d.some f,f,jW];try rfl)|refine Wb ?_|fail
   refine zz5 rfl ?_
   refine U_t [0,1] rfl ?_
   simp (maxSteps:=2000000) only [go_sem,jq,jj,jy,jv,jk,jx,g,decide_true,JB,imp_self,true_implies,wJ,qp,m,zlA d b,zna d b,d.some b,b,jW]
   refine U_1 2 0 [] rfl rfl ?_
   simp (maxSteps:=2000000) only [go_sem,jq,jj,jy,jv,jk,jx,g,decide_true,JB,imp_self,true_implies,wJ,qp,m,zlA d b,zna d b,d.some b,b,jW]
   refine zhF (fun _=>zAA _ _ _ _) ?_
   simp (maxSteps:=2000000) only [go_sem,jq,jj,jy,jv,jk,jx,g,decide_true,JB,imp_self,true_implies,wJ,qp,m,zlA d b,zna d b,d.some b,b,jW]
   refine U_t [3,4,5,7,6,8] rfl ?_
   simp (maxSteps:=2000000) only [go_sem,jq,jj,jy,jv,jk,jx,g,decide_true,JB,imp_self,true_implies,wJ,qp,m,zlA d b,zna d b,d.some b,b,jW]
   refine U_1 9 0 [] rfl rfl ?_
   simp (maxSteps:=2000000) only [go_sem,jq,jj,jy,jv,jk,jx,g,decide_true,JB,imp_self,true_implies,wJ,qp,m,zlA d b,zna d b,d.some b,b,jW]
   refine zhF (fun _=>zAA _ _ _ _) ?_
   simp (maxSteps:=2000000) only [go_sem,jq,jj,jy,jv,jk,jx,g,decide_true,JB,imp_self,true_implies,wJ,qp,m,zlA d b,zna d b,d.some b,b,jW]
   refine U_t [10,11,12,13,14,15,16,18,19,17,20,21,22,23,24,25,26,27] rfl ?_
   simp (maxSteps:=2000000) only [go_sem,jq,jj,jy,jv,jk,jx,g,decide_true,JB,imp_self,true_implies,wJ,qp,m,zlA d b,zna d b,d.some b,b,jW]
   refine U_d ?_
   refine Wk ?_
   refine zc9 rfl (fun j=>?_) (fun j=>?_)
   ·refine Wk ?_
    rw [zBr f (decide_eq_false (by rw [wget f,wget b];intro e;have r:=e.2 h0;simp only [jQ,jd,qA,JD,JH] at j;omega))]
   ·refine Wk ?_
    refine ⟨k+1,⟨f,zBs o.2 (JG (by rw [wget f,wget b];simp only [jp,jf,jJ,JD,JH] at j;exact ⟨by omega,fun e=>by omega⟩))⟩,by omega,zjB (zjA f (by omega))⟩
 ·have p:=zjI n
  refine Wk ?_
  rw [zBt p o.2]
theorem zC9 (a:Sl DWindow) (h:Hp) (d:a.Ok h):Ct jV 283 [a.val] h fun v h'=>v=.bool (zC4 a.l)∧h'=h:=by
 have q:=d.max
 rw [zC4]
 refine zdn (fun A W=>by simp) Tryz.func283 rfl rfl (by simp) fun W0=>?_
 refine Wk ?_
 refine zde (ι:=Nat) (fun k=>⟨[(0,true,.c (.v a.val)),(5,true,.c (.v a.val)),(6,true,.c (.v (.int .i64 a.l.length))),(7,true,.c (.v (.int .i64 k)))],[],h,0⟩) (fun k=>k≤a.l.length∧∀ i,i < k→zC3 a.l i=true) (fun k=>a.l.length - k) 0 ⟨jC _,zBu⟩ ?_ ?_
 ·refine Evs ?_
  exact Gk
 intro k m
 refine Wk ?_
 refine zc9 rfl (fun j=>?_) (fun j=>?_)
 ·have b:=zjH j
  rcases we k with h0|h0
  ·have n:(0 < (k:Int))=False:=eq_false (by omega)
   repeat' first|refine Wa ?_|(simp (maxSteps:=2000000) only [go_sem,jq,jj,jy,jv,jk,jx,zlA d b,d.some b,b,jW];try rfl)|refine Wb ?_|fail
   refine zz5 rfl ?_
   refine U_t [0,1,2,3,4,6,5,7,8,9,10,11,12,13,14,15,16,17,18,19,20,26,21,27,22,23,24,25,28,29,30] rfl ?_
   simp (maxSteps:=2000000) only [go_sem,jq,jj,jy,jv,jk,jx,n,decide_false,qP,qc,wC,qW,false_implies,Jg,JA,JB,reduceCtorEq]
   refine U_d ?_
   refine Wk ?_
   refine zc9 rfl (fun f=>?_) (fun f=>?_)
   ·refine Wk ?_
    rw [zBr b (decide_eq_false (by rw [wget b];intro e;simp only [jQ,jd,qA,JD,JH] at f;omega))]
   ·refine Wk ?_
    refine ⟨k+1,⟨b,zBs m.2 (JG (by rw [wget b];simp only [jp,jf,jJ,JD,JH] at f;exact ⟨by omega,fun e=>by omega⟩))⟩,by omega,zjB (zjA b (by omega))⟩
  ·have g:k - 1 < a.l.length:=by omega
   have p:IntKind.i64.wrap ((k:Int) - 1)=((k - 1:Nat):Int):=by rw [zjz (by omega)];omega
   have n:(0 < (k:Int))=True:=eq_true (by omega)
   repeat' first|refine Wa ?_|(simp (maxSteps:=2000000) only [go_sem,jq,jj,jy,jv,jk,jx,zlA d b,d.some b,b,jW];try rfl)|refine Wb ?_|fail
   refine zz5 rfl ?_
   refine U_t [0,1,2,3,4,6,5,7,8,9,10,11,12,13,14,15,16,17,18,19,20,26,21,27,22,23,24,25,28,29,30] rfl ?_
   simp (maxSteps:=2000000) only [go_sem,jq,jj,jy,jv,jk,jx,n,decide_true,JB,imp_self,true_implies,wJ,qp,p,zlA d g,zna d g,d.some g,g,jW]
   refine U_d ?_
   refine Wk ?_
   refine zc9 rfl (fun f=>?_) (fun f=>?_)
   ·refine Wk ?_
    rw [zBr b (decide_eq_false (by rw [wget b,wget g];intro e;have r:=e.2 h0;simp only [jQ,jd,qA,JD,JH] at f;omega))]
   ·refine Wk ?_
    refine ⟨k+1,⟨b,zBs m.2 (JG (by rw [wget b,wget g];simp only [jp,jf,jJ,JD,JH] at f;exact ⟨by omega,fun e=>by omega⟩))⟩,by omega,zjB (zjA b (by omega))⟩
 ·have o:=zjI j
  refine Wk ?_
  rw [zBt o m.2]
theorem zDa {α:Type} {p:α→Bool} {l:List α} {k:Nat} (a:k < l.length) (h:p l[k]=true):l.any p=true:=List.any_eq_true.2 ⟨l[k],qd a,h⟩
theorem zDb {α:Type} {p:α→Bool} {l:List α} (h:∀ i (a:i < l.length),p l[i]=false):l.any p=false:=by
 rw [List.any_eq_false]
 intro x b
 obtain ⟨i,a,rfl⟩:=qL b
 rw [h i a];exact qa
theorem zDc {α:Type} {p:α→Bool} {l:List α} {k:Nat} (e:k < l.length) (h:∀ i (a:i < l.length),i < k→p l[i]=false) (c:p l[k]=false):∀ i (a:i < l.length),i < k+1→p l[i]=false:=fun i a b=>by
 rcases Nat.lt_succ_iff_lt_or_eq.1 b with d|rfl
 ·exact h i a d
 ·exact c
theorem zDd {α:Type} {p:α→Bool} {l:List α} {k:Nat} (a:k < l.length) (h:∀ i (d:i < l.length),i < k→p l[i]=false) (b:p l[k]=true):l.find? p=some l[k]:=by
 rw [List.find?_eq_some_iff_getElem]
 exact ⟨b,k,a,rfl,fun j c=>by rw [h j (by omega) c];rfl⟩
theorem zDe {α:Type} {p:α→Bool} {l:List α} (h:∀ i (a:i < l.length),p l[i]=false):l.find? p=none:=by
 rw [List.find?_eq_none]
 intro x b
 obtain ⟨i,a,rfl⟩:=qL b
 rw [h i a];exact qa
theorem zDf (a:Sl DWindow) (m:Int) (h:Hp) (e:a.Ok h):Ct jV 232 [a.val,.int .i64 m] h fun v h'=>v=.bool (zC5 a.l m)∧h'=h:=by
 have o:=e.max
 refine zdn (fun A W=>by simp) Tryz.func232 rfl rfl (by simp) fun W0=>?_
 refine Wk ?_
 refine zde (ι:=Nat) (fun k=>⟨[(1,true,.c (.v (.int .i64 m))),(7,true,.c (.v a.val)),(8,true,.c (.v (.int .i64 a.l.length))),(9,true,.c (.v (.int .i64 k)))],[],h,0⟩) (fun k=>k≤a.l.length∧∀ i (g:i < a.l.length),i < k→(fun w:DWindow=>In m w.src w.dst) a.l[i]=false) (fun k=>a.l.length - k) 0 ⟨jC _,fun i _ h=>absurd h (qE _)⟩ ?_ ?_
 ·refine Evs ?_
  exact Gk
 intro k j
 refine Wk ?_
 refine zc9 rfl (fun d=>?_) (fun d=>?_)
 ·have b:=zjH d
  repeat' first|refine Wa ?_|refine zhF (fun _=>zAA _ _ _ _) ?_|(simp (maxSteps:=2000000) only [go_sem,jq,jj,jy,jv,jk,jx,zlA e b,e.some b,b,jW];try rfl)|refine Wb ?_|fail
  refine zc9 rfl (fun f=>?_) (fun f=>?_)
  ·refine Wk ?_
   rw [zC5,zDa b f]
  ·refine Wk ?_
   refine ⟨k+1,⟨b,zDc (p:=fun w:DWindow=>In m w.src w.dst) b j.2 f⟩,by omega,zjB (zjA b (by omega))⟩
 ·have n:=zjI d
  refine Wk ?_
  rw [zC5,zDb (fun i g=>j.2 i g (by omega))]
theorem zDg (a:Sl DWindow) (m:Int) (h:Hp) (f:a.Ok h):Ct jV 233 [a.val,.int .i64 m] h fun v h'=>v=.int .i64 (zC6 a.l m)∧h'=h:=by
 have q:=f.max
 rw [zC6]
 refine zdn (fun A W=>by simp) Tryz.func233 rfl rfl (by simp) fun W0=>?_
 repeat' first|refine Wa ?_|refine zhF (fun _=>zC8 _ _ f) ?_|(simp (maxSteps:=2000000) only [go_sem,jq,jj,jy,jv,jk,jx];try rfl)|refine Wb ?_|fail
 refine zc9 rfl (fun d=>?_) (fun d=>?_)
 ·rw [jd] at d
  refine Wk ?_
  rw [d];rfl
 rw [jf] at d
 rw [if_pos d]
 refine Wk ?_
 refine zde (ι:=Nat) (fun k=>⟨[(1,true,.c (.v (.int .i64 m))),(10,true,.c (.v a.val)),(11,true,.c (.v (.int .i64 a.l.length))),(12,true,.c (.v (.int .i64 k)))],[],h,0⟩) (fun k=>k≤a.l.length∧∀ i (n:i < a.l.length),i < k→(fun w:DWindow=>decide (m≤w.dst)) a.l[i]=false) (fun k=>a.l.length - k) 0 ⟨jC _,fun i _ h=>absurd h (qE _)⟩ ?_ ?_
 ·refine Evs ?_
  exact Gk
 intro k g
 refine Wk ?_
 refine zc9 rfl (fun e=>?_) (fun e=>?_)
 ·have b:=zjH e
  repeat' first|refine Wa ?_|(simp (maxSteps:=2000000) only [go_sem,jq,jj,jy,jv,jk,jx,zlA f b,f.some b,b,jW];try rfl)|refine Wb ?_|fail
  refine zc9 rfl (fun j=>?_) (fun j=>?_)
  ·refine Wk ?_
   rw [zDd b g.2 j]
  ·refine Wk ?_
   refine ⟨k+1,⟨b,zDc (p:=fun w:DWindow=>decide (m≤w.dst)) b g.2 j⟩,by omega,zjB (zjA b (by omega))⟩
 ·have o:=zjI e
  refine Wk ?_
  rw [zDe (fun i n=>g.2 i n (by omega))]
theorem zDh (a:Sl DWindow) (n:Int) (h:Hp) (g:a.Ok h) (u:a.l.length≤1048576):Ct jV 292 [a.val,.int .i64 n] h fun v h'=>∃ s:Sl DWindow,v=s.val∧s.l=zC7 a.l n∧s.Ok h'∧Mine h h' s:=by
 rw [zC7]
 refine zdn (fun A W=>by simp) Tryz.func292 rfl rfl (by simp) fun W0=>?_
 repeat' first|refine Wa ?_|refine zhF (fun _=>zC8 _ _ g) ?_|refine zhF (fun _=>zAA _ _ _ _) ?_|(simp (maxSteps:=2000000) only [go_sem,jq,jj,jy,jv,jk,jx];try rfl)|refine Wb ?_|fail
 refine zc9 rfl (fun d=>?_) (fun d=>?_)
 ·refine Wk ?_
  rw [if_neg (by intro e;rw [e.1,JG e.2.1,JG e.2.2] at d;cases d)]
  exact ⟨⟨none,0,[]⟩,rfl,rfl,znE,Mine.nil⟩
 simp only [jp,jf,jJ,JD] at d
 rw [if_pos ⟨d.1,d.2.1,d.2.2⟩]
 refine Wk ?_
 refine zng (ι:=Nat) (fun k=>⟨[(1,true,.c (.v (.int .i64 n))),(5,true,.c (.s 0)),(17,true,.c (.v a.val)),(18,true,.c (.v (.int .i64 a.l.length))),(19,true,.c (.v (.int .i64 k)))],[(0,.row 320 2 ((((a.l.take k).filter (shr n)).map (shw n))).length (((((a.l.take k).filter (shr n)).map (shw n))).flatMap qx))],h,1⟩) (fun k=>k≤a.l.length) (fun k=>a.l.length - k) 0 (jC _) [0] ?_ ?_
 ·refine Evs ?_
  exact Gk
 intro k w
 refine Wk ?_
 refine zc9 rfl (fun f=>?_) (fun f=>?_)
 ·have b:=zjH f
  have t:(((a.l.take k).filter (shr n)).map (shw n)).length≤k:=by rw [jH];exact wK (up _ _) (by rw [ww];omega)
  repeat' first|refine Wa ?_|(simp (maxSteps:=2000000) only [go_sem,jq,jj,jy,jv,jk,jx,zlA g b,g.some b,b,jW];try rfl)|refine Wb ?_|fail
  refine zc9 rfl (fun i=>?_) (fun i=>?_)
  ·refine Wk ?_
   refine ⟨by simp only [maxLen];omega,by omega,?_⟩
   refine Wk ?_
   refine ⟨k+1,[3],b,by omega,?_⟩
   refine Evs ?_
   rw [znF b i,qB,jP,jF]
   refine ⟨zjB (zjA b (by omega)),?_⟩
   exact Gk
  ·refine Wk ?_
   refine ⟨k+1,[0],b,by omega,?_⟩
   refine Evs ?_
   rw [znG b i]
   refine ⟨zjB (zjA b (by omega)),?_⟩
   exact Gk
 ·have j:=zjI f
  refine zc6 ?_
  refine Evs ?_
  rw [qy j]
  refine zl7 0 ((a.l.filter (shr n)).map (shw n)) rfl rfl rfl rfl (by decide) (fun x m=>?_) h (wW _) (Mines.flat (fun _=>rfl) (fun _=>trivial)) fun s h' o p z q=>?_
  ·obtain ⟨y,r,rfl⟩:=List.mem_map.1 m
   exact ⟨(g.2.2.2.1 y (List.mem_filter.1 r).1).1,i64w _⟩
  refine Wk ?_
  exact ⟨s,rfl,o,p,q⟩
theorem zDi (a:Sl DWindow) (m:Int) (h:Hp) (e:a.Ok h):Ct jV 246 [a.val,.int .i64 m] h fun v h'=>v=.bool (zC5 a.l m)∧h'=h:=by
 have o:=e.max
 refine zdn (fun A W=>by simp) Tryz.func246 rfl rfl (by simp) fun W0=>?_
 refine Wk ?_
 refine zde (ι:=Nat) (fun k=>⟨[(1,true,.c (.v (.int .i64 m))),(7,true,.c (.v a.val)),(8,true,.c (.v (.int .i64 a.l.length))),(9,true,.c (.v (.int .i64 k)))],[],h,0⟩) (fun k=>k≤a.l.length∧∀ i (g:i < a.l.length),i < k→(fun w:DWindow=>In m w.src w.dst) a.l[i]=false) (fun k=>a.l.length - k) 0 ⟨jC _,fun i _ h=>absurd h (qE _)⟩ ?_ ?_
 ·refine Evs ?_
  exact Gk
 intro k j
 refine Wk ?_
 refine zc9 rfl (fun d=>?_) (fun d=>?_)
 ·have b:=zjH d
  repeat' first|refine Wa ?_|refine zhF (fun _=>zAB _ _ _ _) ?_|(simp (maxSteps:=2000000) only [go_sem,jq,jj,jy,jv,jk,jx,zlA e b,e.some b,b,jW];try rfl)|refine Wb ?_|fail
  refine zc9 rfl (fun f=>?_) (fun f=>?_)
  ·refine Wk ?_
   rw [zC5,zDa b f]
  ·refine Wk ?_
   refine ⟨k+1,⟨b,zDc (p:=fun w:DWindow=>In m w.src w.dst) b j.2 f⟩,by omega,zjB (zjA b (by omega))⟩
 ·have n:=zjI d
  refine Wk ?_
  rw [zC5,zDb (fun i g=>j.2 i g (by omega))]
theorem zDj (a:Sl DWindow) (m:Int) (h:Hp) (f:a.Ok h):Ct jV 247 [a.val,.int .i64 m] h fun v h'=>v=.int .i64 (zC6 a.l m)∧h'=h:=by
 have q:=f.max
 rw [zC6]
 refine zdn (fun A W=>by simp) Tryz.func247 rfl rfl (by simp) fun W0=>?_
 repeat' first|refine Wa ?_|refine zhF (fun _=>zC9 _ _ f) ?_|(simp (maxSteps:=2000000) only [go_sem,jq,jj,jy,jv,jk,jx];try rfl)|refine Wb ?_|fail
 refine zc9 rfl (fun d=>?_) (fun d=>?_)
 ·rw [jd] at d
  refine Wk ?_
  rw [d];rfl
 rw [jf] at d
 rw [if_pos d]
 refine Wk ?_
 refine zde (ι:=Nat) (fun k=>⟨[(1,true,.c (.v (.int .i64 m))),(10,true,.c (.v a.val)),(11,true,.c (.v (.int .i64 a.l.length))),(12,true,.c (.v (.int .i64 k)))],[],h,0⟩) (fun k=>k≤a.l.length∧∀ i (n:i < a.l.length),i < k→(fun w:DWindow=>decide (m≤w.dst)) a.l[i]=false) (fun k=>a.l.length - k) 0 ⟨jC _,fun i _ h=>absurd h (qE _)⟩ ?_ ?_
 ·refine Evs ?_
  exact Gk
 intro k g
 refine Wk ?_
 refine zc9 rfl (fun e=>?_) (fun e=>?_)
 ·have b:=zjH e
  repeat' first|refine Wa ?_|(simp (maxSteps:=2000000) only [go_sem,jq,jj,jy,jv,jk,jx,zlA f b,f.some b,b,jW];try rfl)|refine Wb ?_|fail
  refine zc9 rfl (fun j=>?_) (fun j=>?_)
  ·refine Wk ?_
   rw [zDd b g.2 j]
  ·refine Wk ?_
   refine ⟨k+1,⟨b,zDc (p:=fun w:DWindow=>decide (m≤w.dst)) b g.2 j⟩,by omega,zjB (zjA b (by omega))⟩
 ·have o:=zjI e
  refine Wk ?_
  rw [zDe (fun i n=>g.2 i n (by omega))]
theorem zDk (a:Sl DWindow) (n:Int) (h:Hp) (g:a.Ok h) (u:a.l.length≤1048576):Ct jV 279 [a.val,.int .i64 n] h fun v h'=>∃ s:Sl DWindow,v=s.val∧s.l=zC7 a.l n∧s.Ok h'∧Mine h h' s:=by
 rw [zC7]
 refine zdn (fun A W=>by simp) Tryz.func279 rfl rfl (by simp) fun W0=>?_
 repeat' first|refine Wa ?_|refine zhF (fun _=>zC9 _ _ g) ?_|refine zhF (fun _=>zAC _ _) ?_|(simp (maxSteps:=2000000) only [go_sem,jq,jj,jy,jv,jk,jx];try rfl)|refine Wb ?_|fail
 refine zc9 rfl (fun d=>?_) (fun d=>?_)
 ·refine Wk ?_
  rw [if_neg (by intro e;rw [e.1,JG e.2.1,JG e.2.2] at d;cases d)]
  exact ⟨⟨none,0,[]⟩,rfl,rfl,znE,Mine.nil⟩
 simp only [jp,jf,jJ,JD] at d
 rw [if_pos ⟨d.1,d.2.1,d.2.2⟩]
 refine Wk ?_
 refine zng (ι:=Nat) (fun k=>⟨[(1,true,.c (.v (.int .i64 n))),(5,true,.c (.s 0)),(17,true,.c (.v a.val)),(18,true,.c (.v (.int .i64 a.l.length))),(19,true,.c (.v (.int .i64 k)))],[(0,.row 320 2 ((((a.l.take k).filter (shr n)).map (shw n))).length (((((a.l.take k).filter (shr n)).map (shw n))).flatMap qx))],h,1⟩) (fun k=>k≤a.l.length) (fun k=>a.l.length - k) 0 (jC _) [0] ?_ ?_
 ·refine Evs ?_
  exact Gk
 intro k w
 refine Wk ?_
 refine zc9 rfl (fun f=>?_) (fun f=>?_)
 ·have b:=zjH f
  have t:(((a.l.take k).filter (shr n)).map (shw n)).length≤k:=by rw [jH];exact wK (up _ _) (by rw [ww];omega)
  repeat' first|refine Wa ?_|(simp (maxSteps:=2000000) only [go_sem,jq,jj,jy,jv,jk,jx,zlA g b,g.some b,b,jW];try rfl)|refine Wb ?_|fail
  refine zc9 rfl (fun i=>?_) (fun i=>?_)
  ·refine Wk ?_
   refine ⟨by simp only [maxLen];omega,by omega,?_⟩
   refine Wk ?_
   refine ⟨k+1,[3],b,by omega,?_⟩
   refine Evs ?_
   rw [znF b i,qB,jP,jF]
   refine ⟨zjB (zjA b (by omega)),?_⟩
   exact Gk
  ·refine Wk ?_
   refine ⟨k+1,[0],b,by omega,?_⟩
   refine Evs ?_
   rw [znG b i]
   refine ⟨zjB (zjA b (by omega)),?_⟩
   exact Gk
 ·have j:=zjI f
  refine zc6 ?_
  refine Evs ?_
  rw [qy j]
  refine zl7 0 ((a.l.filter (shr n)).map (shw n)) rfl rfl rfl rfl (by decide) (fun x m=>?_) h (wW _) (Mines.flat (fun _=>rfl) (fun _=>trivial)) fun s h' o p z q=>?_
  ·obtain ⟨y,r,rfl⟩:=List.mem_map.1 m
   exact ⟨(g.2.2.2.1 y (List.mem_filter.1 r).1).1,i64w _⟩
  refine Wk ?_
  exact ⟨s,rfl,o,p,q⟩
def zDl (l:List DWindow) (k:Nat):Bool:=match l.getLast? with|some w=>decide (w.dst=(k:Int) - 1)|none=>false
def zDm (l:List DWindow) (k:Nat):List DWindow:=if zDl l k=true then l.dropLast ++ [⟨(l.getLast?.getD dW).src,k⟩] else l ++ [⟨k,k⟩]
def zDn (p:Nat→Bool):Nat→List DWindow
 | 0=>[]
 | k+1=>if p k=true then zDm (zDn p k) k else zDn p k
theorem zDo {l:List DWindow} {k:Nat} (h:zDl l k=true):∃ l0 w,l=l0 ++ [w]∧w.dst=(k:Int) - 1∧zDm l k=l0 ++ [⟨w.src,k⟩]:=by
 unfold zDl at h
 split at h
 ·rename_i w a
  have c:=JE h
  obtain ⟨l0,rfl⟩:∃ l0,l=l0 ++ [w]:=⟨l.dropLast,by
   have b:l ≠ []:=by intro e;rw [e] at a;cases a
   rw [List.getLast?_eq_some_getLast b,Option.some.injEq] at a
   rw [← a];exact (List.dropLast_concat_getLast b).symm⟩
  refine ⟨l0,w,rfl,c,?_⟩
  have:zDl (l0 ++ [w]) k=true:=by unfold zDl;simp [c]
  rw [zDm,if_pos this];simp
 ·cases h
theorem zDp {l:List DWindow} {k:Nat} (h:zDl l k=false):zDm l k=l ++ [⟨k,k⟩]:=by rw [zDm,if_neg (by rw [h];exact qa)]
theorem zDq {p:Nat→Bool}:∀ {k:Nat},(zDn p k).length≤k
 | 0=>qV _
 | k+1=>by
  have a:=zDq (p:=p) (k:=k)
  unfold zDn
  split
  ·cases h:zDl (zDn p k) k
   ·rw [zDp h,jP];simp;omega
   ·obtain ⟨l0,w,e,_,b⟩:=zDo h
    rw [b];rw [e] at a;simp at a ⊢;omega
  ·omega
theorem zDr {p:Nat→Bool}:∀ {k:Nat},∀ w ∈ zDn p k,0≤w.src∧w.src≤w.dst∧w.dst < k
 | 0,w,h=>by cases h
 | k+1,w,h=>by
  have a:=zDr (p:=p) (k:=k)
  unfold zDn at h
  split at h
  ·cases b:zDl (zDn p k) k
   ·rw [zDp b] at h
    rcases List.mem_append.1 h with h|h
    ·have:=a w h;omega
    ·obtain rfl:=List.mem_singleton.1 h;simp only;omega
   ·obtain ⟨l0,w',e,d,c⟩:=zDo b
    rw [c] at h
    rcases List.mem_append.1 h with h|h
    ·have:=a w (by rw [e];exact yy _ h);omega
    ·have:=a w' (by rw [e];simp)
     obtain rfl:=List.mem_singleton.1 h;simp only;omega
  ·have:=a w h;omega
theorem zDs {p:Nat→Bool} {k:Nat}:zDl (zDn p k) (k+1)=false:=by
 unfold zDl
 split
 ·rename_i w a
  have b:w ∈ zDn p k:=List.mem_of_getLast? a
  have:=zDr w b
  exact decide_eq_false (by omega)
 ·rfl
theorem zDt {p:Nat→Bool} {k:Nat} (h:p k=true):zDn p (k+1)=zDm (zDn p k) k:=by rw [zDn,if_pos h]
theorem zDu {p:Nat→Bool} {k:Nat} (h:p k=false):zDn p (k+1)=zDn p k:=by rw [zDn,if_neg (by rw [h];exact qa)]
theorem zDv {p:Nat→Bool} {k:Nat} (b:k≤2881) (h:Hp):∀ w ∈ zDn p k,jD h w:=fun w a=>by
 have:=zDr w a
 show I64 _∧I64 _
 unfold I64;omega
theorem zDw {p q:Nat→Bool}:∀ {k:Nat},(∀ i,i < k→p i=q i)→zDn p k=zDn q k
 | 0,_=>rfl
 | k+1,h=>by unfold zDn;rw [h k (Jc k),zDw (fun i a=>h i (by omega))]
theorem zDx {l:List DWindow} {a:Int} {k:Nat}:zDl (l ++ [⟨a,k⟩]) (k+1)=true:=by unfold zDl;simp
theorem zDy {l0:List DWindow} {w:DWindow} {k:Int}:Jq (l0.length * 2+1) ((l0 ++ [w]).flatMap qx) ++ Value.int .i64 k :: List.drop (l0.length * 2+1+1) ((l0 ++ [w]).flatMap qx)=(l0 ++ [(⟨w.src,k⟩:DWindow)]).flatMap qx :=
 zC2 (α:=DWindow) (l0:=l0) (w:=w) (w':=⟨w.src,k⟩) (o:=1) (new:=[.int .i64 k]) rfl (qV 2)
theorem zDz {l0:List DWindow} {k:Int}:Jq (l0.length * 2+1) (l0.flatMap qx ++ [Value.int .i64 k,Value.int .i64 0]) ++ Value.int .i64 k :: List.drop (l0.length * 2+1+1) (l0.flatMap qx ++ [Value.int .i64 k,Value.int .i64 0])=(l0 ++ [(⟨k,k⟩:DWindow)]).flatMap qx:=by
 have:=zDy (l0:=l0) (w:=⟨k,0⟩) (k:=k)
 rw [jF] at this
 exact this
def zDA (f:PForecast) (lv:Int):List DWindow:=zDn (fun m=>decide (lv≤zCP f m)) 2881
theorem zDB (f:Nat) (cs:List Value) (p:Nat→Bool) (h:Hp) (t:∀ k:Nat,k≤2880→Ct jV f ([.int .i64 k] ++ cs) h fun v h'=>v=.bool (p k)∧h'=h):Ct jV 296 [.func (.func f) #[] cs.toArray] h fun v h'=>∃ s:Sl DWindow,v=s.val∧s.l=zDn p 2881∧s.Ok h'∧Mine h h' s:=by
 refine zdn (fun A W=>by simp) Tryz.func296 rfl rfl (by simp) fun W0=>?_
 refine Wk ?_
 refine zng (ι:=Nat) (fun k=>⟨[(0,true,.c (.v (.func (.func f) #[] cs.toArray))),(3,true,.c (.s 0)),(4,true,.c (.v (.bool (zDl (zDn p k) k)))),(5,true,.c (.v (.int .i64 k)))],[(0,.row 320 2 (zDn p k).length ((zDn p k).flatMap qx))],h,1⟩) (fun k=>k≤2881) (fun k=>2881 - k) 0 (jC _) [0] ?_ ?_
 ·refine Evs ?_
  exact Gk
 intro k D
 refine Wk ?_
 refine zc9 rfl (fun g=>?_) (fun g=>?_)
 ·have g:=JE g
  refine Wk ?_
  refine zhF (fun _=>t k (by omega)) ?_
  refine Wk ?_
  refine zc9 rfl (fun b=>?_) (fun b=>?_)
  ·rw [jd] at b
   refine Wk ?_
   refine ⟨k+1,[0],by omega,by omega,?_⟩
   refine Evs ?_
   rw [zDu b,zDs]
   exact Gi (zjA (n:=2881) (k:=k) (by omega) (by omega))
  rw [jf] at b
  refine Wk ?_
  refine zc9 rfl (fun d=>?_) (fun d=>?_)
  ·rw [jd] at d
   have m:=zDp d
   have q:=zDq (p:=p) (k:=k)
   have a:=zDt b
   rw [m] at a
   generalize zDn p k=i at *
   have o:IntKind.i64.wrap (((i.length+1:Nat):Int) - 1)=((i.length:Nat):Int):=by rw [zjz (by omega)];omega
   refine Wk ?_
   refine ⟨by simp only [maxLen];omega,by omega,?_⟩
   have j:(i.flatMap qx).length=i.length * 2:=ziq Enc.len _
   repeat' first|refine Wa ?_|(simp only [go_sem,jq,jj,jy,jv,jk,jx,o];try rfl)|refine Wb ?_|fail
   refine ⟨by omega,by rw [jP,j];simp,?_⟩
   rw [zDz]
   refine Wk ?_
   refine ⟨k+1,[2],by omega,by omega,?_⟩
   refine Evs ?_
   rw [a,zDx,jP,jg]
   exact Gi (zjA (n:=2881) (k:=k) (by omega) (by omega))
  ·rw [jf] at d
   obtain ⟨l0,w,e,z,m⟩:=zDo d
   have a:=zDt b
   rw [m] at a
   have q:=zDq (p:=p) (k:=k)
   generalize zDn p k=i at *
   subst e
   have o:IntKind.i64.wrap (((l0 ++ [w]).length:Int) - 1)=((l0.length:Nat):Int):=by rw [jP] at *;rw [zjz (by simp at *;omega)];simp
   have j:((l0 ++ [w]).flatMap qx).length=(l0 ++ [w]).length * 2:=ziq Enc.len _
   repeat' first|refine Wa ?_|(simp only [go_sem,jq,jj,jy,jv,jk,jx,o];try rfl)|refine Wb ?_|fail
   refine ⟨by rw [jP];simp,by rw [j,jP];simp;omega,?_⟩
   rw [zDy]
   refine Wk ?_
   refine ⟨k+1,[0],by omega,by omega,?_⟩
   refine Evs ?_
   rw [a,zDx,jP,jP,jg,jg,d]
   exact Gi (zjA (n:=2881) (k:=k) (by omega) (by omega))
 ·have g:=JF g
  have r:k=2881:=by omega
  subst r
  refine zc6 ?_
  refine Evs ?_
  refine zl7 0 (zDn p 2881) rfl rfl rfl rfl (by decide) (zDv (qV _) h) h (wW _) (Mines.flat (fun _=>rfl) (fun _=>trivial)) fun s h' u x F y=>?_
  refine Wk ?_
  exact ⟨s,rfl,u,x,y⟩
def zDC (s:DShip):Int:=if s.slow=true then yY s.draught 50 else yY s.draught 20
def zDD (s:DShip):Int:=IntKind.i64.wrap (IntKind.i64.wrap (s.draught+IntKind.i64.wrap (zDC s))+50)
def zDE (c:PChart) (k:Int) (s:DShip):Bool:=zBp c && zBA s && decide (0≤k∧k < c.segments.length)
def zDF (c:PChart) (k:Int) (s:DShip):Int:=if zDE c k s=true then IntKind.i64.wrap (zDD s - (c.segments.getD k.toNat dG).depth) else 0
def zDG (c:PChart) (k:Int) (s:DShip):Int:=if zDE c k s=true then zCa s (c.segments.getD k.toNat dG) else 0
theorem zDH {c:PChart} {k:Int} {s:DShip} (h:zDE c k s=true):zBp c=true∧zBA s=true∧0≤k∧k < c.segments.length:=by
 simp only [zDE,jJ,JD] at h
 exact ⟨h.1.1,h.1.2,h.2.1,h.2.2⟩
theorem zDI (s:DShip) (h:Hp):Ct jV 315 [s.v] h fun v h'=>v=.int .i64 (IntKind.i64.wrap (zDC s))∧h'=h:=by
 rw [zDC]
 refine zdn (fun A W=>by simp) Tryz.func315 rfl rfl (by simp) fun W0=>?_
 refine Wk ?_
 refine zc9 rfl (fun a=>?_) (fun a=>?_)
 ·refine Wk ?_
  refine ⟨by decide,?_⟩
  refine Wk ?_
  rw [if_pos a]
 ·refine Wk ?_
  refine ⟨by decide,?_⟩
  refine Wk ?_
  rw [if_neg (by rw [a];exact qa)]
theorem zDJ (s:DShip) (h:Hp):Ct jV 299 [s.v] h fun v h'=>v=.int .i64 (zDD s)∧h'=h:=by
 rw [zDD]
 refine zdn (fun A W=>by simp) Tryz.func299 rfl rfl (by simp) fun W0=>?_
 refine Wk ?_
 refine zz5 rfl ?_
 refine U_t [0,2,1] rfl ?_
 refine Evs ?_
 refine U_1 3 0 [1,0] rfl rfl ?_
 refine Evs ?_
 refine zhF (fun _=>zDI _ _) ?_
 refine Evs ?_
 refine U_t [4,5,6] rfl ?_
 refine Evs ?_
 refine U_d ?_
 exact Wk0
theorem zDK (s:DShip) (h:Hp) (d:jD h s) (c:zBA s=true):Ct jV 322 [s.v] h fun v h'=>v=.int .i64 (IntKind.i64.wrap (zDC s))∧h'=h:=by
 rw [zDC]
 refine zdn (fun A W=>by simp) Tryz.func322 rfl rfl (by simp) fun W0=>?_
 repeat' first|refine Wa ?_|refine zhF (fun _=>zBH _ _ d) ?_|(simp only [go_sem,jq,jj,jy,jv,jk,jx];try rfl)|refine Wb ?_|fail
 refine zc9 rfl (fun a=>?_) (fun a=>?_)
 ·rw [c] at a;cases a
 refine Wk ?_
 refine zc9 rfl (fun b=>?_) (fun b=>?_)
 ·refine Wk ?_
  refine ⟨by decide,?_⟩
  refine Wk ?_
  rw [if_pos b]
 ·refine Wk ?_
  refine ⟨by decide,?_⟩
  refine Wk ?_
  rw [if_neg (by rw [b];exact qa)]
theorem zDL (s:DShip) (h:Hp) (c:jD h s) (a:zBA s=true):Ct jV 313 [s.v] h fun v h'=>v=.int .i64 (zDD s)∧h'=h:=by
 rw [zDD]
 refine zdn (fun A W=>by simp) Tryz.func313 rfl rfl (by simp) fun W0=>?_
 repeat' first|refine Wa ?_|refine zhF (fun _=>zBH _ _ c) ?_|(simp only [go_sem,jq,jj,jy,jv,jk,jx];try rfl)|refine Wb ?_|fail
 refine zc9 rfl (fun b=>?_) (fun b=>?_)
 ·rw [a] at b;cases b
 refine Wk ?_
 refine zz5 rfl ?_
 refine U_t [0,2,1] rfl ?_
 refine Evs ?_
 refine U_1 3 0 [1,0] rfl rfl ?_
 refine Evs ?_
 refine zhF (fun _=>zDK _ _ c a) ?_
 refine Evs ?_
 refine U_t [4,5,6] rfl ?_
 refine Evs ?_
 refine U_d ?_
 exact Wk0
theorem zDM (c:DChart) (k:Int) (s:DShip) (h:Hp) (a:jD h c) (b:jD h s):Ct jV 291 [c.v,.int .i64 k,s.v] h fun v h'=>v=.bool (zDE (jK c) k s)∧h'=h:=by
 have f:=a.2.max
 have d:IntKind.i64.wrap ((c.segments.l.length:Int) - 1)=(c.segments.l.length:Int) - 1:=zjz (by omega)
 refine zdn (fun A W=>by simp) Tryz.func291 rfl rfl (by simp) fun W0=>?_
 repeat' first|refine Wa ?_|refine zhF (fun _=>zBx _ _ a) ?_|refine zhF (fun _=>zBH _ _ b) ?_|refine zhF (fun _=>zAA _ _ _ _) ?_|(simp only [go_sem,jq,jj,jy,jv,jk,jx,d];try rfl)|refine Wb ?_|fail
 congr 1
 rw [zDE,zCd,yq]
 simp only [jJ,JD,and_assoc]
 constructor <;> (intro e;refine ⟨e.1,e.2.1,?_⟩;omega)
theorem zDN (c:DChart) (k:Int) (s:DShip) (h:Hp) (g:jD h c) (i:jD h s):Ct jV 294 [c.v,.int .i64 k,s.v] h fun v h'=>v=.int .i64 (zDF (jK c) k s)∧h'=h:=by
 have b:=g.2
 rw [zDF]
 refine zdn (fun A W=>by simp) Tryz.func294 rfl rfl (by simp) fun W0=>?_
 repeat' first|refine Wa ?_|refine zhF (fun _=>zDM _ _ _ _ g i) ?_|(simp only [go_sem,jq,jj,jy,jv,jk,jx];try rfl)|refine Wb ?_|fail
 refine zc9 rfl (fun d=>?_) (fun d=>?_)
 ·rw [jd] at d
  rw [if_neg (by rw [d];exact qa)]
  exact Wk0
 rw [jf] at d
 rw [if_pos d]
 obtain ⟨j,h2,f,e⟩:=zDH d
 rw [zCd] at e ⊢
 have a:k.toNat < c.segments.l.length:=by omega
 rw [gget a]
 refine Wk ?_
 refine zz5 rfl ?_
 refine U_t [0,2,4,3,5,6,7] rfl ?_
 simp only [go_sem,jq,jj,jy,jv,jk,jx,zlh b a,zm7 b a,b.some a,f,e]
 refine U_1 1 0 [7,6,5,3,2] rfl rfl ?_
 simp only [go_sem,jq,jj,jy,jv,jk,jx,zlh b a,zm7 b a,b.some a,f,e]
 refine zhF (fun _=>zDL _ _ i h2) ?_
 simp only [go_sem,jq,jj,jy,jv,jk,jx,zlh b a,zm7 b a,b.some a,f,e]
 refine U_t [8,9] rfl ?_
 simp only [go_sem,jq,jj,jy,jv,jk,jx,zlh b a,zm7 b a,b.some a,f,e]
 refine U_d ?_
 exact Wk0
theorem zDO (c:DChart) (k:Int) (s:DShip) (h:Hp) (a:jD h c) (b:jD h s):Ct jV 278 [c.v,.int .i64 k,s.v] h fun v h'=>v=.bool (zDE (jK c) k s)∧h'=h:=by
 have d:=a.2.max
 have e:IntKind.i64.wrap ((c.segments.l.length:Int) - 1)=(c.segments.l.length:Int) - 1:=zjz (by omega)
 refine zdn (fun A W=>by simp) Tryz.func278 rfl rfl (by simp) fun W0=>?_
 repeat' first|refine Wa ?_|refine zhF (fun _=>zBy _ _ a) ?_|refine zhF (fun _=>zBL _ _ b) ?_|refine zhF (fun _=>zAD _ _ _) ?_|(simp only [go_sem,jq,jj,jy,jv,jk,jx];try rfl)|refine Wb ?_|fail
 congr 1
 rw [zDE,zCd,yq]
 simp only [jJ,JD,and_assoc]
theorem zDP (c:DChart) (k:Int) (s:DShip) (h:Hp) (g:jD h c) (i:jD h s):Ct jV 281 [c.v,.int .i64 k,s.v] h fun v h'=>v=.int .i64 (zDF (jK c) k s)∧h'=h:=by
 have b:=g.2
 rw [zDF]
 refine zdn (fun A W=>by simp) Tryz.func281 rfl rfl (by simp) fun W0=>?_
 repeat' first|refine Wa ?_|refine zhF (fun _=>zDO _ _ _ _ g i) ?_|(simp only [go_sem,jq,jj,jy,jv,jk,jx];try rfl)|refine Wb ?_|fail
 refine zc9 rfl (fun d=>?_) (fun d=>?_)
 ·rw [jd] at d
  rw [if_neg (by rw [d];exact qa)]
  exact Wk0
 rw [jf] at d
 rw [if_pos d]
 obtain ⟨j,h2,f,e⟩:=zDH d
 rw [zCd] at e ⊢
 have a:k.toNat < c.segments.l.length:=by omega
 rw [gget a]
 refine Wk ?_
 refine zz5 rfl ?_
 refine U_t [0,2,4,3,5,6,7] rfl ?_
 simp only [go_sem,jq,jj,jy,jv,jk,jx,zlh b a,zm7 b a,b.some a,f,e]
 refine U_1 1 0 [7,6,5,3,2] rfl rfl ?_
 simp only [go_sem,jq,jj,jy,jv,jk,jx,zlh b a,zm7 b a,b.some a,f,e]
 refine zhF (fun _=>zDJ _ _) ?_
 simp only [go_sem,jq,jj,jy,jv,jk,jx,zlh b a,zm7 b a,b.some a,f,e]
 refine U_t [8,9] rfl ?_
 simp only [go_sem,jq,jj,jy,jv,jk,jx,zlh b a,zm7 b a,b.some a,f,e]
 refine U_d ?_
 exact Wk0
theorem zDQ (c:DChart) (k:Int) (s:DShip) (h:Hp) (j:jD h c) (m:jD h s):Ct jV 282 [c.v,.int .i64 k,s.v] h fun v h'=>v=.int .i64 (zDG (jK c) k s)∧h'=h:=by
 have b:=j.2
 rw [zDG]
 refine zdn (fun A W=>by simp) Tryz.func282 rfl rfl (by simp) fun W0=>?_
 repeat' first|refine Wa ?_|refine zhF (fun _=>zBy _ _ j) ?_|refine zhF (fun _=>zBL _ _ m) ?_|refine zhF (fun _=>zAD _ _ _) ?_|(simp only [go_sem,jq,jj,jy,jv,jk,jx];try rfl)|refine Wb ?_|fail
 have e:zDE (jK c) k s=(zBp (jK c) && (zBA s && (decide (0≤k) && decide (k < (c.segments.l.length:Int))))):=by
  rw [zDE,zCd,yq]
  simp only [jJ,JD,and_assoc]
 refine zc9 rfl (fun d=>?_) (fun d=>?_)
 ·rw [if_neg (by rw [e];intro f;simp only [jJ] at f;rw [f.1,f.2.1,f.2.2.1,f.2.2.2] at d;cases d)]
  exact Wk0
 simp only [jp,jf,jJ,JD,and_assoc] at d
 obtain ⟨n,h2,g,i⟩:=d
 rw [if_pos (by rw [e,n,h2,JG g,JG i];rfl),zCd]
 have a:k.toNat < c.segments.l.length:=by omega
 rw [gget a]
 refine Wk ?_
 refine zz5 rfl ?_
 refine U_t [0,1,3,2,4,5] rfl ?_
 simp only [go_sem,jq,jj,jy,jv,jk,jx,zlh b a,b.some a,g,i]
 refine U_1 6 0 [] rfl rfl ?_
 simp only [go_sem,jq,jj,jy,jv,jk,jx,zlh b a,b.some a,g,i]
 refine zhF (fun _=>zCi _ _ _) ?_
 simp only [go_sem,jq,jj,jy,jv,jk,jx,zlh b a,b.some a,g,i]
 refine U_t [7] rfl ?_
 simp only [go_sem,jq,jj,jy,jv,jk,jx,zlh b a,b.some a,g,i]
 refine U_d ?_
 exact Wk0
theorem zDR (c:DChart) (k:Int) (s:DShip) (h:Hp) (a:jD h c) (b:jD h s):Ct jV 295 [c.v,.int .i64 k,s.v] h fun v h'=>v=.int .i64 (zDG (jK c) k s)∧h'=h:=by
 have:=zCj c k s h a b
 have e:zDG (jK c) k s=(if zBp (jK c)=true∧zBA s=true∧0≤k∧k < c.segments.l.length then zCa s (c.segments.l.getD k.toNat dG) else 0):=by
  rw [zDG,zDE,zCd]
  simp only [jJ,JD,and_assoc]
 rw [e];exact this
end Go.Proofs.YtbkaaakphpbmiaaGreat
