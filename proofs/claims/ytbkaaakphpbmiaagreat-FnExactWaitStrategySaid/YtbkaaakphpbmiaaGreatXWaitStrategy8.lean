/- What functions of the given program compute, as contracts. -/
import Derived.Test.YtbkaaakphpbmiaaGreatSWaitStrategyx3
import Derived.Test.YtbkaaakphpbmiaaGreatXWaitStrategy7
set_option linter.unusedVariables false
set_option linter.unusedSimpArgs false
set_option maxRecDepth 4000
open Nat renaming reduceAdd → jq, reduceMul → jj, reduceBEq → jy, reduceLeDiff → jv, reduceLT → jk, reduceEqDiff → jx, zero_add → jb, zero_mul → jA, zero_le → jC, le_refl → qV, not_lt_zero → qE, mul_one → wy, lt_or_ge → wv, le_trans → wK, le_antisymm → wE, add_sub_cancel → uW, lt_succ_self → Jc
open Bool renaming or_eq_false_iff → jp, or_eq_true → jQ, and_eq_true → jJ, not_eq_true' → jd, not_eq_false' → jf, true_and → qp, false_eq_true → qW, and_false → qP, false_ne_true → qa, false_and → qc, and_eq_false_iff → qA, not_false → wq, not_true → wj, false_or → wa, eq_iff_iff → yq, true_or → yw
open Int renaming toNat_natCast → jW, natCast_nonneg → jY, toNat_zero → je, le_refl → qF
open Go.SL.Con renaming con → jK
open List renaming length_append → jP, getD_eq_getElem?_getD → ja, length_singleton → jg, flatMap_append → jF, length_map → jH, take_succ_eq_append_getElem → qw, take_of_length_le → qy, length_nil → qY, getElem?_eq_getElem → qX, getElem_mem → qd, map_append → qB, getElem_map → qH, length_set → wc, range → wg, mem_singleton → ya, mem_append → ye, range_succ → yg, map_nil → yD, nodup_append → yE, map_id → ux, length_range → uQ, getElem?_append_right → uJ, getElem_range → ua, flatMap_nil → uH, take → Jq, ext_getElem → Jj
open Option renaming getD_some → jc, bind_some → yf
open Go.SL.Hp renaming le_trans → jB, ins_same → qD, le_refl → wW, ins_ne → JJ
open Go.SL.Enc renaming ok → jD, mono → jL, enc → qx, size → wA
open Go.Proofs.Tryz renaming prog → jV
namespace Go.Proofs.YtbkaaakphpbmiaaGreat
open Go Go.SL
set_option maxHeartbeats 1000000
theorem zDS {l0:List DWindow} {w:DWindow}:((l0 ++ [w]).flatMap qx).getD (l0.length * 2+1) undef=Value.int .i64 w.dst:=by
 have a:(l0.flatMap qx).length=l0.length * 2:=ziq Enc.len _
 rw [jF,ja,uJ (by omega),a,show l0.length * 2+1 - l0.length * 2=1 by omega]
 rfl
theorem bget {l:List Bool} {i:Nat} (a:i < l.length):l.getD i false=l[i]:=by simp [ja,a]
theorem zDT (a:Sl Bool) (h:Hp) (u:a.Ok h) (J:a.l.length≤2881):Ct jV 312 [a.val] h fun v h'=>∃ s:Sl DWindow,v=s.val∧s.l=zDn (fun i=>a.l.getD i false) a.l.length∧s.Ok h'∧Mine h h' s:=by
 refine zdn (fun A W=>by simp) Tryz.func312 rfl rfl (by simp) fun W0=>?_
 refine Wk ?_
 refine zng (ι:=Nat) (fun k=>⟨[(3,true,.c (.s 0)),(7,true,.c (.v a.val)),(8,true,.c (.v (.int .i64 a.l.length))),(9,true,.c (.v (.int .i64 k)))],[(0,.row 320 2 (zDn (fun i=>a.l.getD i false) k).length ((zDn (fun i=>a.l.getD i false) k).flatMap qx))],h,1⟩) (fun k=>k≤a.l.length) (fun k=>a.l.length - k) 0 (jC _) [0] ?_ ?_
 ·refine Evs ?_
  exact Gk
 intro k K
 refine Wk ?_
 refine zc9 rfl (fun f=>?_) (fun f=>?_)
 ·have b:=zjH f
  repeat' first|refine Wa ?_|(simp only [go_sem,jq,jj,jy,jv,jk,jx,zC1 u b,u.some b,b,jW];try rfl)|refine Wb ?_|fail
  refine zc9 rfl (fun g=>?_) (fun g=>?_)
  ·rw [jd] at g
   refine Wk ?_
   refine ⟨k+1,[0],b,by omega,?_⟩
   refine Evs ?_
   rw [zDu (by rw [bget b];exact g)]
   exact Gi (zjA b (by omega))
  rw [jf] at g
  have d:=zDt (p:=fun i=>a.l.getD i false) (k:=k) (by rw [bget b];exact g)
  have R:=zDq (p:=fun i=>a.l.getD i false) (k:=k)
  generalize zDn (fun i=>a.l.getD i false) k=M at *
  have x:IntKind.i64.wrap ((k:Int) - 1)=(k:Int) - 1:=zjz (by omega)
  rcases List.eq_nil_or_concat M with rfl|⟨l0,w,rfl⟩
  ·have e:zDl [] k=false:=rfl
   rw [zDp e] at d
   have y:(0 < ((0:Nat):Int))=False:=eq_false (by decide)
   repeat' first|refine Wa ?_|(simp only [go_sem,jq,jj,jy,jv,jk,jx,y,decide_false,qc,qW,false_implies,Jg,JA];try rfl)|refine Wb ?_|fail
   refine zc9 rfl (fun z=>?_) (fun z=>?_)
   ·cases z
   refine Wk ?_
   refine ⟨by simp only [maxLen];omega,?_⟩
   refine Wk ?_
   refine ⟨k+1,[2],b,by omega,?_⟩
   refine Evs ?_
   rw [d]
   exact Gi (zjA b (by omega))
  ·rw [List.concat_eq_append] at *
   have D:IntKind.i64.wrap (((l0 ++ [w]).length:Int) - 1)=((l0.length:Nat):Int):=by rw [jP] at *;rw [zjz (by simp at *;omega)];simp
   have o:(0 < ((l0 ++ [w]).length:Int))=True:=eq_true (by rw [jP,jg];omega)
   have j:((l0.length:Nat):Int) < ((l0 ++ [w]).length:Int):=by rw [jP,jg];omega
   have n:((l0 ++ [w]).flatMap qx).length=(l0 ++ [w]).length * 2:=ziq Enc.len _
   have q:l0.length * 2+1 < ((l0 ++ [w]).flatMap qx).length:=by rw [n,jP,jg];omega
   have F:((l0 ++ [w]).flatMap qx).getD (l0.length * 2+1) undef=Value.int .i64 w.dst:=zDS
   have m:l0.length < (l0 ++ [w]).length:=by rw [jP];simp
   repeat' first|refine Wa ?_|(simp only [go_sem,jq,jj,jy,jv,jk,jx,D,o,j,q,m,F,x,decide_true,qp,true_implies,jY,JC,JA,imp_self];try rfl)|refine Wb ?_|fail
   refine zc9 rfl (fun e=>?_) (fun e=>?_)
   ·have e:zDl (l0 ++ [w]) k=true:=by unfold zDl;simpa using eq_of_beq e
    obtain ⟨X,N,r,_,O⟩:=zDo e
    obtain ⟨rfl,t⟩:=List.append_inj' r rfl
    obtain rfl:w=N:=by simpa using t
    rw [O] at d
    repeat' first|refine Wa ?_|(simp only [go_sem,jq,jj,jy,jv,jk,jx,D,j,m];try rfl)|refine Wb ?_|fail
    refine ⟨by rw [n,jP];simp;omega,?_⟩
    rw [zDy]
    refine Wk ?_
    refine ⟨k+1,[0],b,by omega,?_⟩
    refine Evs ?_
    rw [d,jP,jP,jg,jg]
    exact Gi (zjA b (by omega))
   ·have e:zDl (l0 ++ [w]) k=false:=by
     unfold zDl
     simp only [List.getLast?_append,List.getLast?_singleton,Option.some_or,JH]
     exact ne_of_beq_false e
    rw [zDp e] at d
    refine Wk ?_
    refine ⟨by simp only [maxLen];omega,by omega,?_⟩
    refine Wk ?_
    refine ⟨k+1,[2],b,by omega,?_⟩
    refine Evs ?_
    rw [d]
    simp only [jF,jP,jg]
    exact Gi (zjA b (by omega))
 ·have G:=zjI f
  have H:k=a.l.length:=wE K G
  subst H
  refine zc6 ?_
  refine Evs ?_
  refine zl7 0 (zDn (fun i=>a.l.getD i false) a.l.length) rfl rfl rfl rfl (by decide) (zDv J h) h (wW _) (Mines.flat (fun _=>rfl) (fun _=>trivial)) fun s h' r t Y Q=>?_
  refine Wk ?_
  exact ⟨s,rfl,r,t,Q⟩
def lowM (f:PForecast) (lv:Int) (k:Nat):List Bool:=(wg k).map fun m:Nat=>decide (lv≤zCP f m)
theorem zDU {f:PForecast} {lv:Int} {k:Nat}:lowM f lv (k+1)=lowM f lv k ++ [decide (lv≤zCP f k)]:=by rw [lowM,yg,qB];rfl
theorem zDV {f:PForecast} {lv:Int} {k:Nat}:(lowM f lv k).length=k:=by rw [lowM,jH,uQ]
theorem zDW {f:PForecast} {lv:Int}:zDn (fun i=>(lowM f lv 2881).getD i false) 2881=zDA f lv:=by
 refine zDw fun i a=>?_
 simp [lowM,ja,a]
def zDX (f:PForecast) (c:PChart) (k:Int) (s:DShip):List DWindow:=if zBb f=true∧zDE c k s=true then zC7 (zDA f (zDF c k s)) (zDG c k s) else []
set_option maxRecDepth 100000 in
theorem zDY (f:DForecast) (lv:Int) (h:Hp) (b:jD h f) (h0:0 < f.surges.l.length):Ct jV 293 [f.v,.int .i64 lv,.bool false] h fun v h'=>∃ s:Sl DWindow,v=s.val∧s.l=zDA (jK f) lv∧s.Ok h'∧Mine h h' s:=by
 refine zdn (fun A W=>by simp) Tryz.func293 rfl rfl (by simp) fun W0=>?_
 refine Wk ?_
 refine zng (ι:=Nat) (fun k=>⟨[(1,true,.c (.v (.int .i64 lv))),(2,true,.c (.v (.bool false))),(3,true,.c (.p 0 0)),(7,true,.c (.s 1)),(8,true,.c (.v (.int .i64 k)))],[(0,.box 53 [.v (.int .i64 f.tide.mean),.v f.tide.parts.val,.v f.surges.val]),(1,.row 4 1 (lowM (jK f) lv k).length ((lowM (jK f) lv k).flatMap qx))],h,2⟩) (fun k=>k≤2881) (fun k=>2881 - k) 0 (jC _) [0,1] ?_ ?_
 ·refine Evs ?_
  simp only [lowM,List.range_zero,yD,qY,uH]
  exact Gk
 intro k y
 have d:=zDV (f:=jK f) (lv:=lv) (k:=k)
 refine Wk ?_
 refine zc9 rfl (fun a=>?_) (fun a=>?_)
 ·have a:=JE a
  have z:=zCH (m:=(k:Int)) h0
  repeat' first|refine Wa ?_|refine zhF (fun _=>zCR f _ _ b h0) ?_|(simp only [go_sem,jq,jj,jy,jv,jk,jx];try rfl)|refine Wb ?_|fail
  refine zc9 rfl (fun e=>?_) (fun e=>?_)
  ·cases e
  repeat' first|refine Wa ?_|refine zhF (fun _=>zCY _ _ _ b.1) ?_|(simp only [go_sem,jq,jj,jy,jv,jk,jx];try rfl)|refine Wb ?_|fail
  refine ⟨by simp only [maxLen];omega,by omega,?_⟩
  refine Wk ?_
  refine ⟨k+1,[0,4],by omega,by omega,?_⟩
  refine Evs ?_
  rw [zDU,zCP,zCL,jP,jg,jF]
  exact Gi (zjA (n:=2881) (k:=k) (by omega) (by omega))
 ·have a:=JF a
  have g:k=2881:=by omega
  subst g
  refine zc6 ?_
  refine Evs ?_
  refine zl7 1 (lowM (jK f) lv 2881) rfl rfl rfl rfl (by decide) (fun _ _=>trivial) h (wW _) (Mines.flat (fun _=>rfl) (fun _=>trivial)) fun s D i o q F=>?_
  refine Wk ?_
  have j:s.l.length=2881:=by rw [i];exact d
  refine zkr (zDT s _ o (by omega)) rfl ?_
  rintro v h2 x ⟨r,rfl,t,u,w⟩
  refine Wk ?_
  refine ⟨r,rfl,?_,u,Mine.back q w⟩
  rw [t,j,i,zDW]
theorem zDZ (f:DForecast) (lv m:Int) (p q:Nat) (h:Hp) (c:jD h f) (h0:0 < f.surges.l.length) (a:h.lds (some ⟨p,0,none⟩) 3=some [.int .i64 f.tide.mean,f.tide.parts.val,f.surges.val]) (b:h.lds (some ⟨q,0,none⟩) 1=some [.int .i64 lv]):Ct jV 297 [.int .i64 m,.pointer (some ⟨p,0,none⟩),.pointer (some ⟨q,0,none⟩)] h fun v h'=>v=.bool (decide (lv≤zCP (jK f) m))∧h'=h:=by
 refine zdn (fun A W=>by simp) Tryz.func297 rfl rfl (by simp) fun W0=>?_
 refine Wk ?_
 refine zz5 rfl ?_
 refine U_t [0,1,3] rfl ?_
 simp only [go_sem,jq,jj,jy,jv,jk,jx,a,b]
 refine U_1 2 0 [3] rfl rfl ?_
 simp only [go_sem,jq,jj,jy,jv,jk,jx,a,b]
 refine zhF (fun _=>zCZ f _ _ c h0) ?_
 simp only [go_sem,jq,jj,jy,jv,jk,jx,a,b]
 refine U_t [4,5] rfl ?_
 simp only [go_sem,jq,jj,jy,jv,jk,jx,a,b]
 refine U_d ?_
 exact Wk0
theorem zD0 (f:DForecast) (lv:Int) (h:Hp) (g:jD h f) (b:zBb (jK f)=true):Ct jV 280 [f.v,.int .i64 lv] h fun v h'=>∃ s:Sl DWindow,v=s.val∧s.l=zDA (jK f) lv∧s.Ok h'∧Mine h h' s:=by
 have h0:0 < f.surges.l.length:=by have:=zCK b;rwa [zCL] at this
 refine zdn (fun A W=>by simp) Tryz.func280 rfl rfl (by simp) fun W0=>?_
 repeat' first|refine Wa ?_|refine zhF (fun _=>zBe f _ g) ?_|(simp only [go_sem,jq,jj,jy,jv,jk,jx];try rfl)|refine Wb ?_|fail
 refine zc9 rfl (fun c=>?_) (fun c=>?_)
 ·rw [b] at c;cases c
 refine zc5 ?_
 refine Evs ?_
 refine zze 1 rfl rfl fun q d _=>?_
 refine Evs ?_
 refine zze 0 rfl rfl fun p a _=>?_
 refine Evs ?_
 have d:h q=none:=d
 have a:(h.ins q (.cells #[.int .i64 lv] 3 (0,0))) p=none:=a
 have n:h.le (h.ins q (.cells #[.int .i64 lv] 3 (0,0))):=Hp.ins_le d
 have r:=Hp.ins_le (o:=.cells #[.int .i64 f.tide.mean,f.tide.parts.val,f.surges.val] 53 (0,0)) a
 have i:q ≠ p:=fun e=>by subst e;rw [qD] at a;cases a
 have j:=jB n r
 refine zlU [1] rfl ?_
 refine Evs ?_
 refine zkr (zDB 297 [.pointer (some ⟨p,0,none⟩),.pointer (some ⟨q,0,none⟩)] (fun m=>decide (lv≤zCP (jK f) m)) _ (fun k _=>zDZ f lv k p q _ (jL j g) h0 (zzg (xs:=[.int .i64 f.tide.mean,f.tide.parts.val,f.surges.val]) qD rfl (qV 3)) (zzg (xs:=[.int .i64 lv]) (by rw [JJ i,qD]) rfl (qV 1)))) rfl ?_
 rintro v h2 y ⟨t,rfl,u,w,x⟩
 refine Wk ?_
 exact ⟨t,rfl,u,w,Mine.back j x⟩
theorem zD1 (f:DForecast) (c:DChart) (k:Int) (s:DShip) (h:Hp) (i:jD h f) (d:jD h c) (g:jD h s):Ct jV 245 [f.v,c.v,.int .i64 k,s.v] h fun v h'=>∃ r:Sl DWindow,v=r.val∧r.l=zDX (jK f) (jK c) k s∧r.Ok h'∧Mine h h' r:=by
 rw [zDX]
 refine zdn (fun A W=>by simp) Tryz.func245 rfl rfl (by simp) fun W0=>?_
 repeat' first|refine Wa ?_|refine zhF (fun _=>zBe f _ i) ?_|refine zhF (fun _=>zDO c _ s _ d g) ?_|(simp only [go_sem,jq,jj,jy,jv,jk,jx];try rfl)|refine Wb ?_|fail
 refine zc9 rfl (fun a=>?_) (fun a=>?_)
 ·refine Wk ?_
  rw [if_neg (by intro e;rw [e.1,e.2] at a;cases a)]
  exact ⟨⟨none,0,[]⟩,rfl,rfl,znE,Mine.nil⟩
 simp only [jp,jf] at a
 rw [if_pos ⟨a.1,a.2⟩]
 have h0:0 < f.surges.l.length:=by have:=zCK a.1;rwa [zCL] at this
 refine Wk ?_
 refine zz5 rfl ?_
 refine U_t [0,1,2,3,6,7,8] rfl ?_
 refine Evs ?_
 refine U_1 4 0 [8,6,0] rfl rfl ?_
 refine Evs ?_
 refine zhF (fun _=>zDP c _ s _ d g) ?_
 refine Evs ?_
 refine U_1 5 0 [8,6] rfl rfl ?_
 refine Evs ?_
 refine zkr (zD0 f _ _ i a.1) rfl ?_
 rintro v w b ⟨m,rfl,j,n,y⟩
 refine Evs ?_
 refine U_1 9 0 [] rfl rfl ?_
 refine Evs ?_
 refine zhF (fun _=>zDQ c _ s _ (jL (x:=c) b d) (jL (x:=s) b g)) ?_
 refine Evs ?_
 refine U_1 10 0 [] rfl rfl ?_
 refine Evs ?_
 refine zkr (zDk m _ _ n (by rw [j];exact wK zDq (by decide))) rfl ?_
 rintro v h2 u ⟨o,rfl,p,q,t⟩
 refine Evs ?_
 refine U_t [11] rfl ?_
 refine Evs ?_
 refine U_d ?_
 refine Wk ?_
 exact ⟨o,rfl,by rw [p,j],q,Mine.back b t⟩
theorem zD2 (f:DForecast) (c:DChart) (k:Int) (s:DShip) (h:Hp) (i:jD h f) (d:jD h c) (g:jD h s):Ct jV 271 [f.v,c.v,.int .i64 k,s.v,.bool false] h fun v h'=>∃ r:Sl DWindow,v=r.val∧r.l=zDX (jK f) (jK c) k s∧r.Ok h'∧Mine h h' r:=by
 rw [zDX]
 refine zdn (fun A W=>by simp) Tryz.func271 rfl rfl (by simp) fun W0=>?_
 repeat' first|refine Wa ?_|refine zhF (fun _=>zBd f _ i) ?_|refine zhF (fun _=>zDM c _ s _ d g) ?_|(simp only [go_sem,jq,jj,jy,jv,jk,jx];try rfl)|refine Wb ?_|fail
 refine zc9 rfl (fun a=>?_) (fun a=>?_)
 ·refine Wk ?_
  rw [if_neg (by intro e;rw [e.1,e.2] at a;cases a)]
  exact ⟨⟨none,0,[]⟩,rfl,rfl,znE,Mine.nil⟩
 simp only [jp,jf] at a
 rw [if_pos ⟨a.1,a.2⟩]
 have h0:0 < f.surges.l.length:=by have:=zCK a.1;rwa [zCL] at this
 refine Wk ?_
 refine zz5 rfl ?_
 refine U_t [0,1,2,3,5,7,8,9] rfl ?_
 refine Evs ?_
 refine U_1 4 0 [9,7,0] rfl rfl ?_
 refine Evs ?_
 refine zhF (fun _=>zDN c _ s _ d g) ?_
 refine Evs ?_
 refine U_1 6 0 [9,7] rfl rfl ?_
 refine Evs ?_
 refine zkr (zDY f _ _ i h0) rfl ?_
 rintro v w b ⟨m,rfl,j,n,y⟩
 refine Evs ?_
 refine U_1 10 0 [] rfl rfl ?_
 refine Evs ?_
 refine zhF (fun _=>zDR c _ s _ (jL (x:=c) b d) (jL (x:=s) b g)) ?_
 refine Evs ?_
 refine U_1 11 0 [] rfl rfl ?_
 refine Evs ?_
 refine zkr (zDh m _ _ n (by rw [j];exact wK zDq (by decide))) rfl ?_
 rintro v h2 u ⟨o,rfl,p,q,t⟩
 refine Evs ?_
 refine U_t [12] rfl ?_
 refine Evs ?_
 refine U_d ?_
 refine Wk ?_
 exact ⟨o,rfl,by rw [p,j],q,Mine.back b t⟩
theorem zD3 (f:DForecast) (c:DChart) (k:Int) (s:DShip) (h:Hp) (a:jD h f) (b:jD h c) (d:jD h s):Ct jV 230 [f.v,c.v,.int .i64 k,s.v] h fun v h'=>∃ r:Sl DWindow,v=r.val∧r.l=zDX (jK f) (jK c) k s∧r.Ok h'∧Mine h h' r:=by
 refine zdn (fun A W=>by simp) Tryz.func230 rfl rfl (by simp) fun W0=>?_
 refine Wk ?_
 refine zkr (zD2 f c k s _ a b d) rfl ?_
 rintro v n m ⟨e,rfl,g,i,j⟩
 refine Wk ?_
 exact ⟨e,rfl,g,i,j⟩
def zEf (s:DSegment) (pt:Int):Int:=if pt=s.a then s.b else if pt=s.b then s.a else -1
def zEg (g:List DSegment) (pts:List Int) (s:Int):Option (List Int) :=
 if 0≤s∧s < g.length then (if zEf (g.getD s.toNat dG) (pts.getLast?.getD 0) < 0∨zEf (g.getD s.toNat dG) (pts.getLast?.getD 0) ∈ pts then none else some (pts ++ [zEf (g.getD s.toNat dG) (pts.getLast?.getD 0)])) else none
def ptsK (g:List DSegment) (a:Int) (r:List Int):Nat→Option (List Int)
 | 0=>some [a]
 | k+1=>(ptsK g a r k).bind fun pts=>zEg g pts (r.getD k 0)
def zEh (c:PChart) (a:Int) (r:List Int):Option (List Int):=if 0≤a∧a < c.points.length then ptsK c.segments a r r.length else none
def zEi (c:PChart) (a:Int) (r:List Int):Option (List Int):=if zBp c=true then zEh c a r else none
theorem zEj {g:List DSegment} {a:Int} {r:List Int} {k:Nat} (h:ptsK g a r k=none):∀ {n:Nat},k≤n→ptsK g a r n=none
 | 0,b=>by rw [← Nat.le_zero.1 b,h]
 | n+1,b=>by
  rcases wv k (n+1) with c|c
  ·rw [ptsK,zEj h (Nat.le_of_lt_succ c)];rfl
  ·obtain rfl:k=n+1:=by omega
   exact h
theorem zEk {c:PChart} (h:zBp c=true):c.points.length≤8∧∀ i,i < c.segments.length→0≤(c.segments.getD i dG).a∧(c.segments.getD i dG).a < c.points.length∧0≤(c.segments.getD i dG).b∧(c.segments.getD i dG).b < c.points.length:=by
 simp only [zBp,jJ,JD] at h
 refine ⟨h.1.1.1,fun i d=>?_⟩
 have:=h.2 i d
 simp only [zBo,zBm,jJ,JD] at this
 exact ⟨this.1.1,this.1.2.1,this.1.2.2.1,this.1.2.2.2.1⟩
theorem zEl {c:PChart} (h:zBp c=true) {i:Nat} (a:i < c.segments.length) (p:Int):zEf (c.segments.getD i dG) p < c.points.length∧-1≤zEf (c.segments.getD i dG) p:=by
 have b:=(zEk h).2 i a
 unfold zEf
 split
 ·omega
 ·split <;> omega
theorem zEm (c:DChart):(jK c).points=c.points.l:=zBg _
theorem zEn (s:DSegment) (c:Int) (h:Hp):Ct jV 277 [s.v,.int .i64 c] h fun v h'=>v=.int .i64 (zEf s c)∧h'=h:=by
 refine zdn (fun A W=>by simp) Tryz.func277 rfl rfl (by simp) fun W0=>?_
 refine Wk ?_
 refine zc9 rfl (fun a=>?_) (fun a=>?_)
 ·refine Wk ?_
  rw [zEf,if_pos (eq_of_beq a)]
 ·refine Wk ?_
  refine zc9 rfl (fun b=>?_) (fun b=>?_)
  ·refine Wk ?_
   rw [zEf,if_neg (ne_of_beq_false a),if_pos (eq_of_beq b)]
  ·refine Wk ?_
   rw [zEf,if_neg (ne_of_beq_false a),if_neg (ne_of_beq_false b)]
theorem zEo (s:DSegment) (c:Int) (h:Hp):Ct jV 272 [s.v,.int .i64 c] h fun v h'=>v=.int .i64 (zEf s c)∧h'=h:=by
 refine zdn (fun A W=>by simp) Tryz.func272 rfl rfl (by simp) fun W0=>?_
 refine Wk ?_
 refine zc9 rfl (fun a=>?_) (fun a=>?_)
 ·refine Wk ?_
  rw [zEf,if_pos (eq_of_beq a)]
 ·refine Wk ?_
  refine zc9 rfl (fun b=>?_) (fun b=>?_)
  ·refine Wk ?_
   rw [zEf,if_neg (ne_of_beq_false a),if_pos (eq_of_beq b)]
  ·refine Wk ?_
   rw [zEf,if_neg (ne_of_beq_false a),if_neg (ne_of_beq_false b)]
theorem zEJ {g:List DSegment} {pts a:List Int} {s:Int} (h:zEg g pts s=some a):(0≤s∧s < g.length)∧0≤zEf (g.getD s.toNat dG) (pts.getLast?.getD 0)∧zEf (g.getD s.toNat dG) (pts.getLast?.getD 0) ∉ pts∧a=pts ++ [zEf (g.getD s.toNat dG) (pts.getLast?.getD 0)]:=by
 unfold zEg at h
 split at h
 ·rename_i b
  split at h
  ·cases h
  ·rename_i h2
   rw [not_or] at h2
   exact ⟨b,by omega,h2.2,(Option.some.inj h).symm⟩
 ·cases h
theorem zEK {g:List DSegment} {a:Int} {r pts:List Int} {k:Nat} (b:k < r.length) (h:ptsK g a r k=some pts):ptsK g a r (k+1)=zEg g pts r[k]:=by
 rw [ptsK,h,yf,ja,qX b];rfl
theorem zEL {g:List DSegment} {a:Int} {r pts:List Int} {k:Nat} (h:ptsK g a r (k+1)=some pts):∃ p,ptsK g a r k=some p∧zEg g p (r.getD k 0)=some pts:=by
 rw [ptsK] at h
 cases b:ptsK g a r k with
 | none=>rw [b] at h;cases h
 | some p=>rw [b,yf] at h;exact ⟨p,rfl,h⟩
theorem zEM {g:List DSegment} {a:Int} {r:List Int}:∀ {k:Nat} {pts:List Int},ptsK g a r k=some pts→pts.length=k+1
 | 0,pts,h=>by rw [ptsK] at h;rw [← Option.some.inj h];rfl
 | k+1,pts,h=>by
  obtain ⟨p,b,h2⟩:=zEL h
  rw [(zEJ h2).2.2.2,jP,zEM b];rfl
theorem zEN {g:List DSegment} {a:Int} {r:List Int}:∀ {k:Nat} {pts:List Int},ptsK g a r k=some pts→pts.Nodup
 | 0,pts,h=>by rw [ptsK] at h;rw [← Option.some.inj h];simp
 | k+1,pts,h=>by
  obtain ⟨p,c,h2⟩:=zEL h
  obtain ⟨_,_,d,f⟩:=zEJ h2
  rw [f,yE]
  exact ⟨zEN c,by simp,fun x b y i e=>by rw [List.mem_singleton.1 i] at e;rw [e] at b;exact d b⟩
theorem zEO {c:PChart} (d:zBp c=true) {a:Int} (e:0≤a∧a < c.points.length) {r:List Int}:∀ {k:Nat} {pts:List Int},ptsK c.segments a r k=some pts→∀ x ∈ pts,0≤x∧x < c.points.length
 | 0,pts,h,x,b=>by rw [ptsK] at h;rw [← Option.some.inj h,ya] at b;rw [b];exact e
 | k+1,pts,h,x,b=>by
  obtain ⟨p,f,h2⟩:=zEL h
  obtain ⟨h0,g,_,i⟩:=zEJ h2
  rw [i] at b
  rcases List.mem_append.1 b with b|b
  ·exact zEO d e f x b
  ·rw [List.mem_singleton.1 b]
   exact ⟨g,(zEl d (by omega) _).1⟩
theorem zEP {l:List Int} {k:Nat} (h:l.length=k+1):l.getLast?.getD 0=l.getD k 0:=by
 rw [List.getLast?_eq_getElem?,h,ja];rfl
def metV (l:List Int):List Value:=(wg 8).map fun j:Nat=>.bool (decide ((j:Int) ∈ l))
def metC (l:List Int):List SC:=(metV l).map .v
theorem zEQ {l:List Int}:(metV l).length=8:=by rw [metV,jH,uQ]
theorem zER {l:List Int}:(metC l).length=8:=by rw [metC,jH,zEQ]
theorem zES {l:List Int} {x:Int} (h:0≤x∧x < 8):Jq x.toNat (metC l) ++ SC.v (.bool true) :: List.drop (x.toNat+1) (metC l)=metC (l ++ [x]):=by
 rw [zEb (by rw [zER];omega)]
 apply Jj
 ·rw [wc,zER,zER]
 ·intro i a h2
  rw [zER] at h2
  simp only [metC,metV,List.getElem_set,qH,ua,ye,ya]
  by_cases e:x.toNat=i
  ·rw [if_pos e,JG (.inr (by omega))]
  ·rw [if_neg e]
   congr 2
   rw [decide_eq_decide]
   exact ⟨.inl,fun h=>h.resolve_right (by omega)⟩
theorem zET {l:List Int} {x:Int} (h:0≤x∧x < 8):(metC l).getD x.toNat (.v undef)=.v (.bool (decide (x ∈ l))):=by
 have a:x.toNat < (metC l).length:=by rw [zER];omega
 rw [ja,qX a]
 simp only [metC,metV,qH,ua,jc,Int.toNat_of_nonneg h.1]
theorem zEU (a:Sl Int) (n:Int) (h:Hp) (f:a.Ok h):Ct jV 273 [a.val,.int .i64 n] h fun v h'=>v=.bool (decide (n ∈ a.l))∧h'=h:=by
 have m:=f.max
 refine zdn (fun A W=>by simp) Tryz.func273 rfl rfl (by simp) fun W0=>?_
 refine Wk ?_
 refine zde (ι:=Nat) (fun k=>⟨[(1,true,.c (.v (.int .i64 n))),(4,true,.c (.v (.bool false))),(7,true,.c (.v a.val)),(8,true,.c (.v (.int .i64 a.l.length))),(9,true,.c (.v (.int .i64 k)))],[],h,0⟩) (fun k=>k≤a.l.length∧n ∉ a.l.take k) (fun k=>a.l.length - k) 0 ⟨jC _,by simp⟩ ?_ ?_
 ·refine Evs ?_
  exact Gk
 intro k i
 refine Wk ?_
 refine zc9 rfl (fun g=>?_) (fun g=>?_)
 ·have b:=zjH g
  repeat' first|refine Wa ?_|(simp only [go_sem,jq,jj,jy,jv,jk,jx,zkR f b,f.some b,b,jW];try rfl)|refine Wb ?_|fail
  refine zc9 rfl (fun d=>?_) (fun d=>?_)
  ·have d:a.l[k]=n:=eq_of_beq d
   refine Wk ?_
   rw [JG (by rw [← d];exact qd b)]
  ·have d:¬ a.l[k]=n:=ne_of_beq_false d
   refine Wk ?_
   refine ⟨k+1,⟨b,by rw [qw b,ye,ya];exact not_or.2 ⟨i.2,fun e=>d e.symm⟩⟩,by omega,zjB (zjA b (by omega))⟩
 ·have j:=zjI g
  refine Wk ?_
  have h2:=i.2
  rw [qy j] at h2
  rw [decide_eq_false h2]
theorem zEV (c:DChart) (a:Int) (r:Sl Int) (h:Hp) (hc:jD h c) (hr:r.Ok h) (ha:I64 a) (F:r.l.length≤1048576):Ct jV 231 [c.v,.int .i64 a,r.val] h fun v h'=>∃ s:Sl Int,v=.tuple #[s.val,.bool (ptsK c.segments.l a r.l r.l.length).isSome]∧s.l=(ptsK c.segments.l a r.l r.l.length).getD []∧s.Ok h':=by
 have hl:=hr.max
 have ak:=hc.2.max
 refine zdn (fun A W=>by simp) Tryz.func231 rfl rfl (by simp) fun W0=>?_
 refine Wk ?_
 refine zD5 1 [a] rfl rfl rfl rfl fun s0 h0 e0 R0 f0 ac k0=>?_
 refine Evs ?_
 have ae:WS 3 h0 s0:=⟨R0,fun x N=>by rw [e0,ya] at N;subst N;exact ha⟩
 refine zng (ι:=Nat × Hp × Sl Int) (fun i=>⟨[(3,true,.c (.p 0 0)),(6,true,.c (.v (.slice none 0 0))),(7,true,.c (.v (.bool false))),(8,true,.c (.v i.2.2.val)),(14,true,.c (.v r.val)),(15,true,.c (.v (.int .i64 r.l.length))),(16,true,.c (.v (.int .i64 i.1)))],[(0,.box 57 [.v c.points.val,.v c.segments.val])],i.2.1,1⟩) (fun i=>i.1≤r.l.length∧h.le i.2.1∧WS 3 i.2.1 i.2.2∧(∀ g,i.2.2.a=some ⟨g,0,none⟩→h g=none)∧ptsK c.segments.l a r.l i.1=some i.2.2.l) (fun i=>r.l.length - i.1) (0,h0,s0) ⟨jC _,ac,ae,f0,by rw [e0];rfl⟩ [0] ?_ ?_
 ·refine Evs ?_
  exact Gk
 rintro ⟨k,hk,s⟩ ⟨ag,w,G,H,J⟩
 simp only at ag w G H J
 have m:=G.ok (by decide)
 have n:=zEM J
 have f:jD hk c:=jL w hc
 have aa:=hr.mono w
 refine Wk ?_
 refine zc9 rfl (fun hd=>?_) (fun hd=>?_)
 ·have q:=zjH hd
  have O:=zEK q J
  have Q:zEg c.segments.l s.l r.l[k]=none→ptsK c.segments.l a r.l r.l.length=none:=fun e=>zEj (k:=k+1) (by rw [O,e]) q
  repeat' first|refine Wa ?_|refine zhF (fun _=>zAA _ _ _ _) ?_|(simp only [go_sem,jq,jj,jy,jv,jk,jx,zkR aa q,aa.some q,q,jW];try rfl)|refine Wb ?_|fail
  rw [zjz (by omega)]
  obtain ⟨x,ah⟩:∃ x,r.l[k]=x:=⟨_,rfl⟩
  rw [ah] at O Q ⊢
  refine zc9 rfl (fun N=>?_) (fun N=>?_)
  ·have R:¬ (0≤x∧x < c.segments.l.length):=by
    rw [jd,qA,JH,JH] at N;omega
   refine Wk ?_
   rw [Q (by rw [zEg,if_neg R])]
   exact ⟨⟨none,0,[]⟩,rfl,rfl,znE⟩
  have R:0≤x∧x < c.segments.l.length:=by
   rw [jf,jJ,JD,JD] at N;omega
  obtain ⟨z,D⟩:=R
  have d:x.toNat < c.segments.l.length:=by omega
  have j:k < s.l.length:=by omega
  have t:(k:Int) < s.l.length:=by omega
  have K:k < k+1:=Jc k
  have u:(k:Int) < ((k+1:Nat):Int):=by omega
  have M:IntKind.i64.wrap (((k+1:Nat):Int) - 1)=(k:Int):=by rw [zjz (by omega)];omega
  obtain ⟨y,X⟩:∃ y,zEf c.segments.l[x.toNat] s.l[k]=y:=⟨_,rfl⟩
  have Y:zEg c.segments.l s.l x=if y < 0∨y ∈ s.l then none else some (s.l ++ [y]):=by
   rw [zEg,if_pos ⟨z,D⟩,zEP n,gget d,ja,qX j,jc,X]
  have ab:I64 y:=by
   rw [← X];unfold zEf
   have o1:=f.2.el d
   split
   ·exact o1.2.1
   ·split
    ·exact o1.1
    ·unfold I64;omega
  refine Wk ?_
  refine zz5 rfl ?_
  refine U_t [0,2,5,6,1,7,3,8,4,9,10] rfl ?_
  simp only [go_sem,jq,jj,jy,jv,jk,jx,zlh f.2 d,f.2.some d,zm7 f.2 d,d,z,D,n,M,zkR m j,m.some j,j,t,K,u,jW,jY,Jg,JA,JB,JC]
  refine U_1 11 0 [] rfl rfl ?_
  simp only [go_sem,jq,jj,jy,jv,jk,jx,zlh f.2 d,f.2.some d,zm7 f.2 d,d,z,D,n,M,zkR m j,m.some j,j,t,K,u,jW,jY,Jg,JA,JB,JC]
  refine zhF (fun _=>zEo _ _ _) ?_
  simp only [go_sem,jq,jj,jy,jv,jk,jx,zlh f.2 d,f.2.some d,zm7 f.2 d,d,z,D,n,M,zkR m j,m.some j,j,t,K,u,jW,jY,Jg,JA,JB,JC]
  refine U_t [12] rfl ?_
  simp only [go_sem,jq,jj,jy,jv,jk,jx,zlh f.2 d,f.2.some d,zm7 f.2 d,d,z,D,n,M,zkR m j,m.some j,j,t,K,u,jW,jY,Jg,JA,JB,JC]
  refine U_d ?_
  refine Wk ?_
  rw [X]
  repeat' first|refine Wa ?_|refine zhF (fun _=>zEU s y _ m) ?_|(simp only [go_sem,jq,jj,jy,jv,jk,jx];try rfl)|refine Wb ?_|fail
  refine zc9 rfl (fun F=>?_) (fun F=>?_)
  ·refine Wk ?_
   rw [Q (by rw [Y,if_pos];exact (Bool.or_eq_true_iff.1 F).imp JE JE)]
   exact ⟨⟨none,0,[]⟩,rfl,rfl,znE⟩
  have F:¬ (y < 0∨y ∈ s.l):=by
   exact not_or.2 ⟨JF (Bool.or_eq_false_iff.1 F).1,JF (Bool.or_eq_false_iff.1 F).2⟩
  rw [if_neg F] at Y
  refine zc5 ?_
  refine Evs ?_
  first|refine zzr [0,0,0,3,0] rfl ?_|refine zzq [0,0,0,3,0] rfl ?_|(refine zc3 ?_;first|refine zzr [0,0,0,3,0] rfl ?_|refine zzq [0,0,0,3,0] rfl ?_)
  refine Evs ?_
  refine zD6 (s:=s) rfl G.1 (fun g hg=>.inl (H g hg)) ?_
  refine Evs ?_
  refine ⟨rfl,by simp only [maxLen];omega,by omega,fun ad cap h2 P=>?_⟩
  have P':Pub (zD4 hk s) 3 (wA Int) (s.l ++ [y]).length ((s.l ++ [y]).flatMap qx) ad cap h2:=by
   rw [jP,jF];exact P
  obtain ⟨W2,al,ai,aj⟩:=G.push (x:=y) ab P'
  rw [show Value.slice ad (s.l.length+1) cap=(Sl.mk ad cap (s.l ++ [y])).val from by simp only [Sl.val,jP,jg]]
  have Z:h.le h2:=fun b o hb=>aj b o (w b o hb) fun e=>by rw [H b e] at hb;cases hb
  refine Wk ?_
  refine ⟨(k+1,h2,⟨ad,cap,s.l ++ [y]⟩),[0],⟨q,Z,W2,fun g hg=>?_,by rw [O,Y]⟩,by simp only;omega,?_⟩
  ·rcases ai g hg with e|e
   ·exact znR w e
   ·exact H g e
  refine Evs ?_
  refine ⟨zjB (zjA q (by omega)),Z,?_⟩
  exact Gk
 ·have am:=zjI hd
  obtain rfl:k=r.l.length:=by omega
  refine Wk ?_
  rw [J]
  exact ⟨s,rfl,rfl,m⟩
theorem zEW {c:PChart} {a:Int} {r:List Int} (h:¬ (0≤a∧a < c.points.length)):zEh c a r=none:=by rw [zEh,if_neg h]
theorem zEX {c:PChart} {a:Int} {r:List Int} (h:0≤a∧a < c.points.length):zEh c a r=ptsK c.segments a r r.length:=by rw [zEh,if_pos h]
theorem zEY (c:DChart) (a:Int) (r:Sl Int) (h:Hp) (D:jD h c) (Q:r.Ok h) (X:zBp (jK c)=true) (b:r.l.length≤1048576):Ct jV 241 [c.v,.int .i64 a,r.val] h fun v h'=>∃ s:Sl Int,v=.tuple #[s.val,.bool (zEh (jK c) a r.l).isSome]∧s.l=(zEh (jK c) a r.l).getD []∧s.Ok h':=by
 have hl:=Q.max
 obtain ⟨h8,aj⟩:=zEk X
 have ak:=D.2.max
 have n:(jK c).segments=c.segments.l:=zCd c
 have G:(jK c).points=c.points.l:=zEm c
 refine zdn (fun A W=>by simp) Tryz.func241 rfl rfl (by simp) fun W0=>?_
 repeat' first|refine Wa ?_|refine zhF (fun _=>zAD _ _ _) ?_|(simp only [go_sem,jq,jj,jy,jv,jk,jx];try rfl)|refine Wb ?_|fail
 refine zc9 rfl (fun j=>?_) (fun j=>?_)
 ·have d:¬ (0≤a∧a < (jK c).points.length):=by
   rw [G];rw [jd,qA,JH,JH] at j;omega
  refine Wk ?_
  rw [zEW d]
  exact ⟨⟨none,0,[]⟩,rfl,rfl,znE⟩
 have d:0≤a∧a < (jK c).points.length:=by
  rw [G];rw [jf,jJ,JD,JD] at j;omega
 obtain ⟨o,H⟩:=d
 have aa:a < ((8:Nat):Int):=by omega
 have ab:a.toNat≤7:=by omega
 rw [zEX ⟨o,H⟩,n]
 repeat' first|refine Wa ?_|(simp only [go_sem,jq,jj,jy,jv,jk,jx,o,aa,ab,jb,wy,Jg,JA];try rfl)|refine Wb ?_|fail
 refine zng (ι:=Nat × List Int) (fun i=>⟨[(1,true,.c (.v (.int .i64 (i.2.getLast?.getD 0)))),(3,true,.c (.p 0 0)),(6,true,.c (.v (.slice none 0 0))),(7,true,.c (.v (.bool false))),(8,true,.c (.p 1 0)),(9,true,.c (.s 2)),(22,true,.c (.v r.val)),(23,true,.c (.v (.int .i64 r.l.length))),(24,true,.c (.v (.int .i64 i.1)))],[(0,.box 57 [.v c.points.val,.v c.segments.val]),(1,.box 323 (metC i.2)),(2,.row 3 1 i.2.length (i.2.flatMap qx))],h,3⟩) (fun i=>i.1≤r.l.length∧ptsK c.segments.l a r.l i.1=some i.2) (fun i=>r.l.length - i.1) (0,[a]) ⟨jC _,rfl⟩ [0,1,2] ?_ ?_
 ·refine Evs ?_
  refine ⟨⟨rfl,rfl⟩,congrArg some (congrArg _ (zES (l:=[]) ⟨o,by omega⟩)),?_⟩
  exact Gk
 rintro ⟨k,l⟩ ⟨ac,m⟩
 simp only at ac m
 have ai:=zEM m
 have ae:=zEO X (a:=a) ⟨o,H⟩ (r:=r.l) (k:=k) (pts:=l) (by rw [n];exact m)
 refine Wk ?_
 refine zc9 rfl (fun Y=>?_) (fun Y=>?_)
 ·have f:=zjH Y
  have w:=zEK f m
  have q:zEg c.segments.l l r.l[k]=none→ptsK c.segments.l a r.l r.l.length=none:=fun e=>zEj (k:=k+1) (by rw [w,e]) f
  repeat' first|refine Wa ?_|refine zhF (fun _=>zAD _ _ _) ?_|(simp only [go_sem,jq,jj,jy,jv,jk,jx,zkR Q f,Q.some f,f,jW];try rfl)|refine Wb ?_|fail
  obtain ⟨x,ag⟩:∃ x,r.l[k]=x:=⟨_,rfl⟩
  rw [ag] at w q ⊢
  refine zc9 rfl (fun j=>?_) (fun j=>?_)
  ·have d:¬ (0≤x∧x < c.segments.l.length):=by
    rw [jd,qA,JH,JH] at j;omega
   refine Wk ?_
   rw [q (by rw [zEg,if_neg d])]
   exact ⟨⟨none,0,[]⟩,rfl,rfl,znE⟩
  have d:0≤x∧x < c.segments.l.length:=by
   rw [jf,jJ,JD,JD] at j;omega
  obtain ⟨J,K⟩:=d
  have g:x.toNat < c.segments.l.length:=by omega
  obtain ⟨y,z⟩:∃ y,zEf c.segments.l[x.toNat] (l.getLast?.getD 0)=y:=⟨_,rfl⟩
  have t:zEg c.segments.l l x=if y < 0∨y ∈ l then none else some (l ++ [y]):=by
   rw [zEg,if_pos ⟨J,K⟩,gget g,z]
  have M:y < ((8:Nat):Int):=by
   have:=(zEl X (i:=x.toNat) (by rw [n];exact g) (l.getLast?.getD 0)).1
   rw [n,gget g,z] at this
   omega
  repeat' first|refine Wa ?_|refine zhF (fun _=>zEn c.segments.l[x.toNat] (l.getLast?.getD 0) _) ?_|(simp only [go_sem,jq,jj,jy,jv,jk,jx,zlh D.2 g,D.2.some g,zm7 D.2 g,g,J,K,jW,jY,Jg,JA,JB,JC];try rfl)|refine Wb ?_|fail
  rw [z]
  by_cases F:y < 0
  ·repeat' first|refine Wa ?_|(simp only [go_sem,jq,jj,jy,jv,jk,jx,eq_true F,reduceCtorEq,decide_true,decide_false,wj,wq,yw,wa,qW,false_implies,Jg,JA];try rfl)|refine Wb ?_|fail
   refine zc9 rfl (fun b=>?_) (fun b=>?_)
   case refine_2=>cases b
   refine Wk ?_
   rw [q (by rw [t,if_pos (.inl F)])]
   exact ⟨⟨none,0,[]⟩,rfl,rfl,znE⟩
  have u:0≤y:=by omega
  have N:y.toNat≤7:=by omega
  have O:y.toNat < 8:=by omega
  have ah:=zET (l:=l) (x:=y) ⟨u,by omega⟩
  have Z:=zES (l:=l) (x:=y) ⟨u,by omega⟩
  repeat' first|refine Wa ?_|(simp only [go_sem,jq,jj,jy,jv,jk,jx,eq_false F,reduceCtorEq,u,M,N,O,ah,zER,jb,wy,decide_true,decide_false,wj,wq,yw,wa,qW,false_implies,Jg,JA];try rfl)|refine Wb ?_|fail
  refine zc9 rfl (fun b=>?_) (fun b=>?_)
  ·have b:y ∈ l:=JE b
   refine Wk ?_
   rw [q (by rw [t,if_pos (.inr b)])]
   exact ⟨⟨none,0,[]⟩,rfl,rfl,znE⟩
  have b:¬ (y < 0∨y ∈ l):=not_or.2 ⟨F,JF b⟩
  rw [if_neg b] at t
  repeat' first|refine Wa ?_|(simp only [go_sem,jq,jj,jy,jv,jk,jx,u,M,N,O,Z,zER,jb,wy,Jg,JA];try rfl)|refine Wb ?_|fail
  refine ⟨by simp only [maxLen];omega,by omega,?_⟩
  refine Wk ?_
  refine ⟨(k+1,l ++ [y]),[0,1,4],⟨f,by rw [w,t]⟩,by simp only;omega,?_⟩
  refine Evs ?_
  simp only [jF,jP,List.getLast?_concat,jc]
  exact Gi (zjA f (by omega))
 ·have al:=zjI Y
  obtain rfl:k=r.l.length:=by omega
  refine zc6 ?_
  refine Evs ?_
  refine zD5 2 l rfl rfl rfl rfl fun s h' e1 R f1 l1 k1=>?_
  refine Wk ?_
  rw [m]
  refine ⟨s,rfl,e1,R.ok (by decide) fun x j=>?_⟩
  have:=ae x (by rw [← e1];exact j)
  show I64 _;unfold I64;omega
def zEZ (c:PChart) (a:Int) (r:List Int):Bool:=(zEi c a r).isSome
theorem zE0 {c:PChart} {a:Int} {r:List Int} (h:zBp c=false):zEi c a r=none:=by rw [zEi,if_neg (by rw [h];exact qa)]
theorem zE1 {c:PChart} {a:Int} {r:List Int} (h:zBp c=true):zEi c a r=zEh c a r:=by rw [zEi,if_pos h]
theorem zE2 {α:Type} {o:Option α} (h:o=none):o.isSome=false:=by rw [h];rfl
theorem zE3 {c:PChart} {a:Int} {r:List Int} (h:zEZ c a r=true):zBp c=true∧(0≤a∧a < c.points.length)∧∃ l,zEi c a r=some l∧ptsK c.segments a r r.length=some l∧l.length=r.length+1∧∀ x ∈ l,0≤x∧x < c.points.length:=by
 cases b:zBp c with
 | false=>rw [zEZ,zE0 b] at h;cases h
 | true =>
  obtain ⟨l,d⟩:=Option.isSome_iff_exists.1 h
  have h2:=d
  rw [zE1 b,zEh] at h2
  split at h2
  ·rename_i e
   exact ⟨rfl,e,l,d,h2,zEM h2,zEO b e h2⟩
  ·cases h2
theorem zE4 {g:List DSegment} {a:Int} {r:List Int}:∀ {k:Nat} {l:List Int},ptsK g a r k=some l→k≤r.length→∀ i (b:i < r.length),i < k→0≤r[i]∧r[i] < g.length
 | 0,l,h,e,i,b,c=>absurd c (qE _)
 | k+1,l,h,e,i,b,c=>by
  obtain ⟨p,f,h2⟩:=zEL h
  have h0:=(zEJ h2).1
  rcases wv i k with d|d
  ·exact zE4 f (by omega) i b d
  ·obtain rfl:i=k:=by omega
   rwa [ja,qX b] at h0
theorem zE5 (c:DChart) (a:Int) (r:Sl Int) (h:Hp) (f:jD h c) (g:I64 a) (i:r.Ok h) (j:r.l.length≤1048576):Ct jV 172 [c.v,.int .i64 a,r.val] h fun v h'=>v=.bool (zEZ (jK c) a r.l)∧h'=h:=by
 refine Ct.forget ?_
 have k:=f.1.max
 have e:(jK c).points=c.points.l:=zEm c
 refine zdn (fun A W=>by simp) Tryz.func172 rfl rfl (by simp) fun W0=>?_
 repeat' first|refine Wa ?_|refine zhF (fun _=>zBx c _ f) ?_|refine zhF (fun _=>zAA _ _ _ _) ?_|(simp only [go_sem,jq,jj,jy,jv,jk,jx];try rfl)|refine Wb ?_|fail
 rw [zjz (by omega)]
 refine zc9 rfl (fun d=>?_) (fun d=>?_)
 ·refine Wk ?_
  rw [zEZ,zE2]
  cases b:zBp (jK c) with
  | false=>exact zE0 b
  | true =>
   rw [zE1 b,zEW]
   rw [e]
   rw [b,wj,wa,jd,qA,JH,JH] at d
   omega
 rw [jp,jf,jf,jJ,JD,JD] at d
 obtain ⟨b,m,n⟩:=d
 refine Wk ?_
 refine zkr (zEV c a r _ f i g j) rfl ?_
 rintro v q o ⟨s,rfl,t,p⟩
 refine Wk ?_
 rw [zEZ,zE1 b,zEX (by rw [e];omega),zCd]
theorem zE6 (c:DChart) (a:Int) (r:Sl Int) (h:Hp) (d:jD h c) (j:I64 a) (e:r.Ok h) (f:r.l.length≤1048576):Ct jV 243 [c.v,.int .i64 a,r.val] h fun v h'=>v=.bool (zEZ (jK c) a r.l)∧h'=h:=by
 refine Ct.forget ?_
 refine zdn (fun A W=>by simp) Tryz.func243 rfl rfl (by simp) fun W0=>?_
 repeat' first|refine Wa ?_|refine zhF (fun _=>zBy c _ d) ?_|(simp only [go_sem,jq,jj,jy,jv,jk,jx];try rfl)|refine Wb ?_|fail
 refine zc9 rfl (fun b=>?_) (fun b=>?_)
 ·rw [jd] at b
  refine Wk ?_
  rw [zEZ,zE0 b];rfl
 rw [jf] at b
 refine Wk ?_
 refine zkr (zEY c a r _ d e b f) rfl ?_
 rintro v k g ⟨s,rfl,m,i⟩
 refine Wk ?_
 rw [zEZ,zE1 b]
theorem zE7 (c:DChart) (a:Int) (r:Sl Int) (h:Hp) (d:jD h c) (e:I64 a) (f:r.Ok h) (g:r.l.length≤1048576):Ct jV 166 [c.v,.int .i64 a,r.val] h fun v h'=>∃ s:Sl Int,v=s.val∧s.l=(zEi (jK c) a r.l).getD []∧s.Ok h':=by
 refine zdn (fun A W=>by simp) Tryz.func166 rfl rfl (by simp) fun W0=>?_
 repeat' first|refine Wa ?_|refine zhF (fun _=>zE5 c a r _ d e f g) ?_|(simp only [go_sem,jq,jj,jy,jv,jk,jx];try rfl)|refine Wb ?_|fail
 refine zc9 rfl (fun b=>?_) (fun b=>?_)
 ·rw [jd,zEZ,Option.isSome_eq_false_iff,Option.isNone_iff_eq_none] at b
  refine Wk ?_
  rw [b]
  exact ⟨⟨none,0,[]⟩,rfl,rfl,znE⟩
 rw [jf] at b
 obtain ⟨p,n,l,j,k,_⟩:=zE3 b
 refine Wk ?_
 refine zkr (zEV c a r _ d f e g) rfl ?_
 rintro v q o ⟨s,rfl,m,i⟩
 refine Wk ?_
 exact ⟨s,rfl,by rw [m,← zCd,k,j],i⟩
theorem zE8 (c:DChart) (a:Int) (r:Sl Int) (h:Hp) (d:jD h c) (k:I64 a) (f:r.Ok h) (g:r.l.length≤1048576):Ct jV 176 [c.v,.int .i64 a,r.val] h fun v h'=>∃ s:Sl Int,v=s.val∧s.l=(zEi (jK c) a r.l).getD []∧s.Ok h':=by
 refine zdn (fun A W=>by simp) Tryz.func176 rfl rfl (by simp) fun W0=>?_
 repeat' first|refine Wa ?_|refine zhF (fun _=>zBy c _ d) ?_|(simp only [go_sem,jq,jj,jy,jv,jk,jx];try rfl)|refine Wb ?_|fail
 refine zc9 rfl (fun b=>?_) (fun b=>?_)
 ·rw [jd] at b
  refine Wk ?_
  rw [zE0 b]
  exact ⟨⟨none,0,[]⟩,rfl,rfl,znE⟩
 rw [jf] at b
 refine Wk ?_
 refine zkr (zEY c a r _ d f b g) rfl ?_
 rintro v m j ⟨s,rfl,i,e⟩
 refine Wk ?_
 exact ⟨s,rfl,by rw [i,zE1 b],e⟩
def zE9 (g:List DSegment) (acc s:Int):Int:=IntKind.i64.wrap (acc+(g.getD s.toNat dG).minutes)
def rmOk (n:Nat) (r:List Int) (i:Nat):Bool:=decide (0≤r.getD i 0∧r.getD i 0 < n)
def zFa (c:PChart) (r:List Int):Int:=if zBp c=true∧∀ i,i < r.length→rmOk c.segments.length r i=true then r.foldl (zE9 c.segments) 0 else -1
theorem zFb {c:PChart} {r:List Int} (h:¬ (zBp c=true∧∀ i,i < r.length→rmOk c.segments.length r i=true)):zFa c r=-1:=by rw [zFa,if_neg h]
theorem iget {l:List Int} {i:Nat} (a:i < l.length):l.getD i 0=l[i]:=by simp [ja,a]
theorem zFc {c:PChart} {r:List Int} (h:¬ zFa c r < 0):zBp c=true∧∀ i,i < r.length→rmOk c.segments.length r i=true:=by
 rw [zFa] at h
 split at h
 ·assumption
 ·omega
theorem zFd (c:DChart) (r:Sl Int) (h:Hp) (f:jD h c) (m:r.Ok h):Ct jV 229 [c.v,r.val] h fun v h'=>v=.int .i64 (zFa (jK c) r.l)∧h'=h:=by
 have w:=m.max
 have u:=f.2.max
 have e:(jK c).segments=c.segments.l:=zCd c
 refine zdn (fun A W=>by simp) Tryz.func229 rfl rfl (by simp) fun W0=>?_
 repeat' first|refine Wa ?_|refine zhF (fun _=>zBx c _ f) ?_|(simp only [go_sem,jq,jj,jy,jv,jk,jx];try rfl)|refine Wb ?_|fail
 refine zc9 rfl (fun b=>?_) (fun b=>?_)
 ·rw [jd] at b
  refine Wk ?_
  rw [zFb (fun H=>by rw [b] at H;cases H.1)]
 rw [jf] at b
 have t:=b
 refine Wk ?_
 refine zde (ι:=Nat) (fun k=>⟨[(2,true,.c (.p 0 0)),(4,true,.c (.v (.int .i64 0))),(5,true,.c (.v (.int .i64 ((r.l.take k).foldl (zE9 c.segments.l) 0)))),(11,true,.c (.v r.val)),(12,true,.c (.v (.int .i64 r.l.length))),(13,true,.c (.v (.int .i64 k)))],[(0,.box 57 [.v c.points.val,.v c.segments.val])],h,1⟩) (fun k=>k≤r.l.length∧∀ i,i < k→rmOk c.segments.l.length r.l i=true) (fun k=>r.l.length - k) 0 ⟨jC _,zBu⟩ ?_ ?_
 ·refine Evs ?_
  exact Gk
 intro k o
 refine Wk ?_
 refine zc9 rfl (fun n=>?_) (fun n=>?_)
 ·have a:=zjH n
  repeat' first|refine Wa ?_|refine zhF (fun _=>zAA _ _ _ _) ?_|(simp only [go_sem,jq,jj,jy,jv,jk,jx,zkR m a,m.some a,a,jW];try rfl)|refine Wb ?_|fail
  rw [zjz (by omega)]
  refine zc9 rfl (fun b=>?_) (fun b=>?_)
  ·refine Wk ?_
   rw [zFb (fun H=>by
    have:=H.2 k a
    rw [rmOk,iget a,e,JD] at this
    rw [jd,qA,JH,JH] at b;omega)]
  have q:0≤r.l[k]∧r.l[k] < c.segments.l.length:=by
   rw [jf,jJ,JD,JD] at b;omega
  obtain ⟨g,j⟩:=q
  have d:r.l[k].toNat < c.segments.l.length:=by omega
  repeat' first|refine Wa ?_|(simp only [go_sem,jq,jj,jy,jv,jk,jx,zm7 f.2 d,f.2.some d,d,g,j,Jg,JA,JB,JC];try rfl)|refine Wb ?_|fail
  refine ⟨k+1,⟨a,zBs o.2 (by rw [rmOk,iget a];exact JG ⟨g,j⟩)⟩,by omega,?_⟩
  rw [zCW a]
  refine ⟨?_,zjB (zjA a (by omega))⟩
  simp only [zE9,gget d]
 ·have s:=zjI n
  refine Wk ?_
  rw [zFa,if_pos ⟨t,fun i x=>by rw [e];exact o.2 i (by omega)⟩,e,qy s]
theorem zFe (c:DChart) (r:Sl Int) (h:Hp) (f:jD h c) (m:r.Ok h):Ct jV 235 [c.v,r.val] h fun v h'=>v=.int .i64 (zFa (jK c) r.l)∧h'=h:=by
 have w:=m.max
 have u:=f.2.max
 have e:(jK c).segments=c.segments.l:=zCd c
 refine zdn (fun A W=>by simp) Tryz.func235 rfl rfl (by simp) fun W0=>?_
 repeat' first|refine Wa ?_|refine zhF (fun _=>zBy c _ f) ?_|(simp only [go_sem,jq,jj,jy,jv,jk,jx];try rfl)|refine Wb ?_|fail
 refine zc9 rfl (fun b=>?_) (fun b=>?_)
 ·rw [jd] at b
  refine Wk ?_
  rw [zFb (fun H=>by rw [b] at H;cases H.1)]
 rw [jf] at b
 have t:=b
 refine Wk ?_
 refine zde (ι:=Nat) (fun k=>⟨[(2,true,.c (.p 0 0)),(4,true,.c (.v (.int .i64 0))),(5,true,.c (.v (.int .i64 ((r.l.take k).foldl (zE9 c.segments.l) 0)))),(11,true,.c (.v r.val)),(12,true,.c (.v (.int .i64 r.l.length))),(13,true,.c (.v (.int .i64 k)))],[(0,.box 57 [.v c.points.val,.v c.segments.val])],h,1⟩) (fun k=>k≤r.l.length∧∀ i,i < k→rmOk c.segments.l.length r.l i=true) (fun k=>r.l.length - k) 0 ⟨jC _,zBu⟩ ?_ ?_
 ·refine Evs ?_
  exact Gk
 intro k o
 refine Wk ?_
 refine zc9 rfl (fun n=>?_) (fun n=>?_)
 ·have a:=zjH n
  repeat' first|refine Wa ?_|refine zhF (fun _=>zAD _ _ _) ?_|(simp only [go_sem,jq,jj,jy,jv,jk,jx,zkR m a,m.some a,a,jW];try rfl)|refine Wb ?_|fail
  skip
  refine zc9 rfl (fun b=>?_) (fun b=>?_)
  ·refine Wk ?_
   rw [zFb (fun H=>by
    have:=H.2 k a
    rw [rmOk,iget a,e,JD] at this
    rw [jd,qA,JH,JH] at b;omega)]
  have q:0≤r.l[k]∧r.l[k] < c.segments.l.length:=by
   rw [jf,jJ,JD,JD] at b;omega
  obtain ⟨g,j⟩:=q
  have d:r.l[k].toNat < c.segments.l.length:=by omega
  repeat' first|refine Wa ?_|(simp only [go_sem,jq,jj,jy,jv,jk,jx,zm7 f.2 d,f.2.some d,d,g,j,Jg,JA,JB,JC];try rfl)|refine Wb ?_|fail
  refine ⟨k+1,⟨a,zBs o.2 (by rw [rmOk,iget a];exact JG ⟨g,j⟩)⟩,by omega,?_⟩
  rw [zCW a]
  refine ⟨?_,zjB (zjA a (by omega))⟩
  simp only [zE9,gget d]
 ·have s:=zjI n
  refine Wk ?_
  rw [zFa,if_pos ⟨t,fun i x=>by rw [e];exact o.2 i (by omega)⟩,e,qy s]
def dQ:DPassage:=⟨0,0,false,0,0⟩
theorem qget {l:List DPassage} {i:Nat} (a:i < l.length):l.getD i dQ=l[i]:=by simp [ja,a]
def chIn (n:Nat) (l:List DPassage) (i:Nat):Bool:=decide ((l.getD i dQ).ship=(l.getD 0 dQ).ship) && decide (0≤(l.getD i dQ).seg∧(l.getD i dQ).seg < (n:Int))
def chTo (c:PChart) (l:List DPassage) (i:Nat):Bool:=decide (i=0) || (decide ((zB9 c (l.getD i dQ)).1=(zB9 c (l.getD (i - 1) dQ)).2) && decide ((l.getD (i - 1) dQ).fin≤(l.getD i dQ).start))
def chOk (c:PChart) (l:List DPassage) (i:Nat):Bool:=chIn c.segments.length l i && chTo c l i
def zFf (c:PChart) (l:List DPassage):Bool:=zBp c && decide (∀ i,i < l.length→chOk c l i=true)
theorem zFg (c:DChart):(jK c).segments.length=c.segments.l.length:=by rw [zCd]
theorem zFh {n:Nat} {l:List DPassage} {i:Nat} (a:i < l.length) (h:chIn n l i=true):0≤l[i].seg∧l[i].seg < (n:Int):=by
 rw [chIn,qget a] at h
 exact JE (Bool.and_eq_true_iff.1 h).2
theorem zFi {c:DChart} {l:List DPassage} {i:Nat} (h:chOk (jK c) l i=true):chIn c.segments.l.length l i=true:=by
 rw [chOk,zFg] at h
 exact (Bool.and_eq_true_iff.1 h).1
theorem zFj {c:DChart} {l:List DPassage} {i:Nat} (h:chIn c.segments.l.length l i=false):chOk (jK c) l i=false:=by rw [chOk,zFg,h,qc]
theorem zFk {c:DChart} {l:List DPassage} {i:Nat} (h:chIn c.segments.l.length l i=true) (h2:chTo (jK c) l i=true):chOk (jK c) l i=true:=by rw [chOk,zFg,h,h2];rfl
theorem zFl {c:DChart} {l:List DPassage} {i:Nat} (h2:chTo (jK c) l i=false):chOk (jK c) l i=false:=by rw [chOk,h2,qP]
theorem zFm (c:DChart) (a:Sl DPassage) (h:Hp) (t:jD h c) (f:a.Ok h):Ct jV 305 [c.v,a.val] h fun v h'=>v=.bool (zFf (jK c) a.l)∧h'=h:=by
 have F:=t.2
 have O:=F.max
 have N:=f.max
 have G:IntKind.i64.wrap ((c.segments.l.length:Int) - 1)=(c.segments.l.length:Int) - 1:=zjz (by omega)
 rw [zFf]
 refine zdn (fun A W=>by simp) Tryz.func305 rfl rfl (by simp) fun W0=>?_
 repeat' first|refine Wa ?_|refine zhF (fun _=>zBx c _ t) ?_|(simp only [go_sem,jq,jj,jy,jv,jk,jx];try rfl)|refine Wb ?_|fail
 refine zc9 rfl (fun r=>?_) (fun r=>?_)
 ·rw [jd] at r
  rw [r]
  exact Wk0
 rw [jf] at r
 rw [r,qp]
 refine Wk ?_
 refine zde (ι:=Nat) (fun k=>⟨[(1,true,.c (.v a.val)),(2,true,.c (.p 0 0)),(14,true,.c (.v a.val)),(15,true,.c (.v (.int .i64 a.l.length))),(16,true,.c (.v (.int .i64 k)))],[(0,.box 57 [.v c.points.val,.v c.segments.val])],h,1⟩) (fun k=>k≤a.l.length∧∀ i,i < k→chOk (jK c) a.l i=true) (fun k=>a.l.length - k) 0 ⟨jC _,zBu⟩ ?_ ?_
 ·refine Evs ?_
  exact Gk
 intro k u
 refine Wk ?_
 refine zc9 rfl (fun x=>?_) (fun x=>?_)
 ·have d:=zjH x
  have h0:0 < a.l.length:=by omega
  have n:(0:Int) < a.l.length:=by omega
  have o:=f.some h0
  have j:=(zm3 f h0).1
  simp only [go_sem,jA] at j
  repeat' first|refine Wa ?_|(simp only [go_sem,jq,jj,jy,jv,jk,jx,zkV f d,f.some d,d,jW];try rfl)|refine Wb ?_|fail
  refine ziV rfl ?_
  refine zi3 [0,1,2,3,4,5,6,7,8,9,10,11,12,13] rfl (by kernel_rfl) ?_
  simp only [go_sem,jq,jj,jy,jv,jk,jx,o,j,n,je,jA,qF,Jg,JA,JB]
  refine ziT [14] (by kernel_rfl) (by kernel_rfl) ?_
  simp only [go_sem,jq,jj,jy,jv,jk,jx,o,j,n,je,jA,qF,Jg,JA,JB,G]
  refine zhF (fun _=>zAA _ _ _ _) ?_
  simp only [go_sem,jq,jj,jy,jv,jk,jx,o,j,n,je,jA,qF,Jg,JA,JB]
  refine zi3 [15,16] rfl (by kernel_rfl) ?_
  simp only [go_sem,jq,jj,jy,jv,jk,jx,o,j,n,je,jA,qF,Jg,JA,JB]
  refine ziU (by kernel_rfl) ?_
  refine Wk ?_
  refine zc9 rfl (fun y=>?_) (fun y=>?_)
  ·have m:chIn c.segments.l.length a.l k=false:=by
    rw [chIn,qget d,qget h0]
    simp only [jQ,jd,qA,JH,bne_iff_ne] at y ⊢
    omega
   refine Wk ?_
   rw [zBr d (zFj m)]
  ·have m:chIn c.segments.l.length a.l k=true:=by
    rw [chIn,qget d,qget h0]
    simp only [jp,jf,jJ,JD,bne_eq_false_iff_eq] at y ⊢
    omega
   refine Wk ?_
   refine zc9 rfl (fun w=>?_) (fun w=>?_)
   ·have q:k=0:=by have:=eq_of_beq w;omega
    refine Wk ?_
    refine ⟨k+1,⟨d,zBs u.2 (zFk m (by rw [chTo,JG q];rfl))⟩,by omega,zjB (zjA d (by omega))⟩
   ·have q:¬ k=0:=by intro e;rw [e] at w;cases w
    have b:k - 1 < a.l.length:=by omega
    have g:IntKind.i64.wrap ((k:Int) - 1)=((k - 1:Nat):Int):=by rw [zjz (by omega)];omega
    obtain ⟨H,J⟩:=zFh d m
    obtain ⟨K,M⟩:=zFh b (zFi (u.2 (k - 1) (by omega)))
    repeat' first|refine Wa ?_|refine zhF (fun _=>zCf c _ _ t H J) ?_|(simp only [go_sem,jq,jj,jy,jv,jk,jx,g];try rfl)|refine Wb ?_|fail
    refine ziV rfl ?_
    refine zi3 [0,1,2,3,4,5] rfl (by kernel_rfl) ?_
    simp only [go_sem,jq,jj,jy,jv,jk,jx,zkV f b,f.some b,b,jW,g]
    refine ziT [6] (by kernel_rfl) (by kernel_rfl) ?_
    simp only [go_sem,jq,jj,jy,jv,jk,jx,zkV f b,f.some b,b,jW,g]
    refine zhF (fun _=>zCf c _ _ t K M) ?_
    simp only [go_sem,jq,jj,jy,jv,jk,jx,zkV f b,f.some b,b,jW,g]
    refine zi3 [7,8,9,10,11] rfl (by kernel_rfl) ?_
    simp only [go_sem,jq,jj,jy,jv,jk,jx,zkV f b,f.some b,b,jW,g]
    refine ziU (by kernel_rfl) ?_
    refine Wk ?_
    refine zi8 rfl (by kernel_rfl) ?_
    simp only [go_sem,jq,jj,jy,jv,jk,jx,zkV f b,f.some b,b,jW,g,zm3 f b]
    refine Wk ?_
    refine zc9 rfl (fun z=>?_) (fun z=>?_)
    ·have s:chTo (jK c) a.l k=false:=by
      rw [chTo,qget d,qget b,decide_eq_false q,wa]
      simp only [jQ,bne_iff_ne,JD] at z
      rw [qA,JH,JH]
      omega
     refine Wk ?_
     rw [zBr d (zFl s)]
    ·have s:chTo (jK c) a.l k=true:=by
      rw [chTo,qget d,qget b,decide_eq_false q,wa]
      simp only [jp,bne_eq_false_iff_eq,JH] at z
      rw [Bool.and_eq_true_iff,JD,JD]
      omega
     refine Wk ?_
     refine ⟨k+1,⟨d,zBs u.2 (zFk m s)⟩,by omega,zjB (zjA d (by omega))⟩
 ·have D:=zjI x
  refine Wk ?_
  rw [zBt D u.2]
@[go_sem] theorem zFn (t1 fs d t p af gd tk):ziY (⟨d,.build t1 fs,t,p,af,gd⟩:Oper) tk=⟨d,.build t1 fs,t,p,af,gd⟩ :: tk:=rfl
def pOk (c:PChart) (f:List DShip) (l:List DPassage) (i:Nat):Bool:=zCc c f (l.getD i dQ)
def zFo (c:PChart) (p q:DPassage):DDuty:=⟨p.start,q.fin,(zB9 c p).1,(zB9 c q).2⟩
def zFp (c:PChart) (f:List DShip) (l:List DPassage):DDuty × Bool :=
 if (decide (0 < l.length) && zFf c l && decide (∀ i,i < l.length→pOk c f l i=true))=true then (zFo c (l.getD 0 dQ) (l.getD (l.length - 1) dQ),true) else (⟨0,0,0,0⟩,false)
theorem zFq {c:PChart} {f:List DShip} {l:List DPassage} (h:(decide (0 < l.length) && zFf c l && decide (∀ i,i < l.length→pOk c f l i=true))=false):zFp c f l=(⟨0,0,0,0⟩,false):=by rw [zFp,if_neg (by rw [h];exact qa)]
theorem zFr {c:PChart} {f:List DShip} {l:List DPassage} (a:0 < l.length) (h2:zFf c l=true) (b:∀ i,i < l.length→pOk c f l i=true):zFp c f l=(zFo c (l.getD 0 dQ) (l.getD (l.length - 1) dQ),true):=by rw [zFp,if_pos (by rw [JG a,h2,JG b];rfl)]
theorem zFs {c:DChart} {l:List DPassage} (h:zFf (jK c) l=true) {i:Nat} (a:i < l.length):0≤l[i].seg∧l[i].seg < (c.segments.l.length:Int) :=
 zFh a (zFi (JE (Bool.and_eq_true_iff.1 h).2 i a))
theorem zFt (c:DChart) (p q:DPassage) (h:Hp) (a:jD h c) (b:0≤p.seg) (h2:p.seg < c.segments.l.length) (d:0≤q.seg) (e:q.seg < c.segments.l.length):Ct jV 261 [c.v,p.v,q.v] h fun v h'=>v=(zFo (jK c) p q).v∧h'=h:=by
 refine zdn (fun A W=>by simp) Tryz.func261 rfl rfl (by simp) fun W0=>?_
 repeat' first|refine Wa ?_|refine zhF (fun _=>zCg c p _ a b h2) ?_|refine zhF (fun _=>zCg c q _ a d e) ?_|(simp only [go_sem,jq,jj,jy,jv,jk,jx];try rfl)|refine Wb ?_|fail
theorem zFu (c:DChart) (f:Sl DShip) (a:Sl DPassage) (h:Hp) (r:jD h c) (x:f.Ok h) (m:a.Ok h):Ct jV 286 [c.v,f.val,a.val] h fun v h'=>v=.tuple #[(zFp (jK c) f.l a.l).1.v,.bool (zFp (jK c) f.l a.l).2]∧h'=h:=by
 have J:=m.max
 refine zdn (fun A W=>by simp) Tryz.func286 rfl rfl (by simp) fun W0=>?_
 repeat' first|refine Wa ?_|refine zhF (fun _=>zFm c a _ r m) ?_|(simp only [go_sem,jq,jj,jy,jv,jk,jx];try rfl)|refine Wb ?_|fail
 refine zc9 rfl (fun n=>?_) (fun n=>?_)
 ·rw [zFq (by
   simp only [jQ,jd,JD,beq_iff_eq] at n
   rcases n with n|n
   ·rw [decide_eq_false (by omega),qc,qc]
   ·rw [n,qP,qc])]
  exact Wk0
 simp only [jp,jf,beq_eq_false_iff_ne,ne_eq,JH] at n
 obtain ⟨F,s⟩:=n
 have h0:0 < a.l.length:=by omega
 refine Wk ?_
 refine zde (ι:=Nat) (fun k=>⟨[(1,true,.c (.v f.val)),(2,true,.c (.v a.val)),(3,true,.c (.p 0 0)),(6,true,.c (.p 1 0)),(25,true,.c (.v a.val)),(26,true,.c (.v (.int .i64 a.l.length))),(27,true,.c (.v (.int .i64 k)))],[(0,.box 57 [.v c.points.val,.v c.segments.val]),(1,.box 303 [.v (.int .i64 0),.v (.int .i64 0),.v (.int .i64 0),.v (.int .i64 0)])],h,2⟩) (fun k=>k≤a.l.length∧∀ i,i < k→pOk (jK c) f.l a.l i=true) (fun k=>a.l.length - k) 0 ⟨jC _,zBu⟩ ?_ ?_
 ·refine Evs ?_
  exact Gk
 intro k u
 refine Wk ?_
 refine zc9 rfl (fun t=>?_) (fun t=>?_)
 ·have e:=zjH t
  repeat' first|refine Wa ?_|refine zhF (fun _=>zCn c f _ _ r x) ?_|(simp only [go_sem,jq,jj,jy,jv,jk,jx,zkV m e,m.some e,e,jW];try rfl)|refine Wb ?_|fail
  refine zc9 rfl (fun q=>?_) (fun q=>?_)
  ·rw [jd] at q
   rw [zFq (by rw [zBr e (by rw [pOk,qget e];exact q),qP])]
   exact Wk0
  ·rw [jf] at q
   refine Wk ?_
   exact ⟨k+1,⟨e,zBs u.2 (by rw [pOk,qget e];exact q)⟩,by omega,zjB (zjA e (by omega))⟩
 ·have G:=zjI t
  have H:k=a.l.length:=by omega
  have o:a.l.length - 1 < a.l.length:=by omega
  have w:IntKind.i64.wrap ((a.l.length:Int) - 1)=((a.l.length - 1:Nat):Int):=by rw [zjz (by omega)];omega
  obtain ⟨y,h2⟩:=zFs s h0
  obtain ⟨z,D⟩:=zFs s o
  rw [zFr h0 s (fun i K=>u.2 i (by omega)),qget h0,qget o]
  have g:(0:Int) < a.l.length:=by omega
  have j:=m.some h0
  have b:=zkV m h0
  have d:=(zm3 m h0)
  simp only [go_sem,jA] at b d
  repeat' first|refine Wa ?_|(simp only [go_sem,jq,jj,jy,jv,jk,jx,zkV m o,m.some o,o,jW,w];try rfl)|refine Wb ?_|fail
  refine ziV rfl ?_
  refine zi3 [0,1,2,3] rfl (by kernel_rfl) ?_
  simp only [go_sem,jq,jj,jy,jv,jk,jx,j,b,d,g,je,jA,qF,Jg,JA,JB]
  refine ziT [4] (by kernel_rfl) (by kernel_rfl) ?_
  simp only [go_sem,jq,jj,jy,jv,jk,jx,j,b,d,g,je,jA,qF,Jg,JA,JB]
  refine zhF (fun _=>zCf c _ _ r y h2) ?_
  simp only [go_sem,jq,jj,jy,jv,jk,jx,j,b,d,g,je,jA,qF,Jg,JA,JB]
  refine zi3 [5,6,7,8,9] rfl (by kernel_rfl) ?_
  simp only [go_sem,jq,jj,jy,jv,jk,jx,j,b,d,g,je,jA,qF,Jg,JA,JB]
  refine ziU (by kernel_rfl) ?_
  repeat' first|refine Wa ?_|refine zhF (fun _=>zCf c _ _ r z D) ?_|(simp only [go_sem,jq,jj,jy,jv,jk,jx];try rfl)|refine Wb ?_|fail
  refine ziV rfl ?_
  refine zi3 [0,1,2,3,4,5,6,7] rfl (by kernel_rfl) ?_
  simp only [go_sem,jq,jj,jy,jv,jk,jx,j,b,d,g,je,jA,qF,Jg,JA,JB]
  refine ziT [8] (by kernel_rfl) (by kernel_rfl) ?_
  simp only [go_sem,jq,jj,jy,jv,jk,jx,j,b,d,g,je,jA,qF,Jg,JA,JB]
  refine ziT [9] (by kernel_rfl) (by kernel_rfl) ?_
  simp only [go_sem,jq,jj,jy,jv,jk,jx,j,b,d,g,je,jA,qF,Jg,JA,JB]
  refine zi3 [10] rfl (by kernel_rfl) ?_
  simp only [go_sem,jq,jj,jy,jv,jk,jx,j,b,d,g,je,jA,qF,Jg,JA,JB]
  refine ziU (by kernel_rfl) ?_
  exact Wk0
theorem zFv (s:Sl DPassage):jK s=s.l:=ux _
theorem i64z:I64 0:=by unfold I64;omega
theorem zFw {c:DChart} {f:List DShip} {a:Sl DPassage} {h h2:Hp} (g:jD h c) (i:a.Ok h):jD h2 (zFp (jK c) f (jK a)).1:=by
 rw [zFv,zFp]
 split
 ·rename_i j
  simp only [jJ,JD] at j
  obtain ⟨⟨h0,k⟩,-⟩:=j
  have b:a.l.length - 1 < a.l.length:=by omega
  obtain ⟨q,h2⟩:=zFs k h0
  obtain ⟨r,s⟩:=zFs k b
  have d:a.l[0].seg.toNat < c.segments.l.length:=by omega
  have e:a.l[a.l.length - 1].seg.toNat < c.segments.l.length:=by omega
  have o:=i.el h0
  have p:=i.el b
  have m:=g.2.el d
  have n:=g.2.el e
  show I64 _∧I64 _∧I64 _∧I64 _
  rw [zFo,qget h0,qget b,zCe _ _ d,zCe _ _ e]
  refine ⟨o.2.2.1,p.2.2.2,?_,?_⟩
  ·dsimp only;split
   ·exact m.1
   ·exact m.2.1
  ·dsimp only;split
   ·exact n.2.1
   ·exact n.1
 ·exact ⟨i64z,i64z,i64z,i64z⟩
def arOk (c:PChart) (s:DShip) (r st:List Int):Bool:=!decide (zFa c r < 0) && zBA s && decide (0 < r.length) && decide (r.length=st.length)
def zFx (c:PChart) (s:DShip) (r st:List Int):Int :=
 if arOk c s r st=true then (if In (st.getD (r.length - 1) 0) 0 2880=true then IntKind.i64.wrap (st.getD (r.length - 1) 0+zCa s (c.segments.getD (r.getD (r.length - 1) 0).toNat dG)) else -1) else -1
theorem zFy {c:PChart} {s:DShip} {r st:List Int} (h:arOk c s r st=false):zFx c s r st=-1:=by rw [zFx,if_neg (by rw [h];exact qa)]
def zFz (c:PChart) (ship:Int) (s:DShip) (pts r st:List Int) (i:Nat):DPassage :=
 ⟨ship,r.getD i 0,pts.getD i 0 == (c.segments.getD (r.getD i 0).toNat dG).a,st.getD i 0,IntKind.i64.wrap (st.getD i 0+zCa s (c.segments.getD (r.getD i 0).toNat dG))⟩
def pasL (c:PChart) (ship:Int) (s:DShip) (pts r st:List Int) (k:Nat):List DPassage:=(wg k).map (zFz c ship s pts r st)
def zFA (c:PChart) (s:DShip) (a:Int) (r st:List Int):Bool:=zEZ c a r && zBA s && decide (r.length=st.length)
def zFB (c:PChart) (ship:Int) (s:DShip) (a:Int) (r st:List Int):List DPassage :=
 if zFA c s a r st=true∧(∀ i,i < r.length→In (st.getD i 0) 0 2880=true) then pasL c ship s ((zEi c a r).getD []) r st r.length else []
theorem zFC {c:PChart} {ship:Int} {s:DShip} {a:Int} {r st:List Int} (h:¬ (zFA c s a r st=true∧∀ i,i < r.length→In (st.getD i 0) 0 2880=true)):zFB c ship s a r st=[]:=by rw [zFB,if_neg h]
theorem zFD {c:PChart} {ship:Int} {s:DShip} {pts r st:List Int} {k:Nat}:pasL c ship s pts r st (k+1)=pasL c ship s pts r st k ++ [zFz c ship s pts r st k]:=by rw [pasL,yg,qB];rfl
theorem zFE {c:PChart} {ship:Int} {s:DShip} {pts r st:List Int} {k:Nat}:(pasL c ship s pts r st k).length=k:=by rw [pasL,jH,uQ]
theorem zFF {c:DChart} {ship:Int} {s:DShip} {pts:List Int} {r st:Sl Int} {h h2:Hp} (e:I64 ship) (f:r.Ok h) (a:st.Ok h) {k:Nat} (m:k≤r.l.length) (j:k≤st.l.length):∀ x ∈ pasL (jK c) ship s pts r.l st.l k,jD h2 x:=fun x g=>by
 obtain ⟨i,b,rfl⟩:=List.mem_map.1 g
 have b:=List.mem_range.1 b
 have d:i < r.l.length:=by omega
 have h2:i < st.l.length:=by omega
 refine ⟨e,?_,?_,i64w _⟩
 ·show I64 (r.l.getD i 0);rw [iget d];exact f.el d
 ·show I64 (st.l.getD i 0);rw [iget h2];exact a.el h2
theorem zFG (c:DChart) (s:DShip) (r t:Sl Int) (h:Hp) (e:jD h c) (F:jD h s) (f:r.Ok h) (g:t.Ok h):Ct jV 173 [c.v,s.v,r.val,t.val] h fun v h'=>v=.int .i64 (zFx (jK c) s r.l t.l)∧h'=h:=by
 have N:=f.max
 have K:=g.max
 have x:(jK c).segments=c.segments.l:=zCd c
 refine zdn (fun A W=>by simp) Tryz.func173 rfl rfl (by simp) fun W0=>?_
 repeat' first|refine Wa ?_|refine zhF (fun _=>zFd c r _ e f) ?_|refine zhF (fun _=>zBH s _ F) ?_|(simp only [go_sem,jq,jj,jy,jv,jk,jx];try rfl)|refine Wb ?_|fail
 refine zc9 rfl (fun o=>?_) (fun o=>?_)
 ·rw [zFy (by
   rw [arOk]
   simp only [jQ,jd,beq_iff_eq,bne_iff_ne] at o
   rw [qA,qA,qA,jf,JH,JH,JD]
   rcases o with ((o|o)|o)|o
   ·exact .inl (.inl (.inl (JE o)))
   ·exact .inl (.inl (.inr o))
   ·first|exact .inl (.inr (by omega))|exact .inr (by omega)
   ·first|exact .inr (by omega)|exact .inl (.inr (by omega)))]
  exact Wk0
 have y:arOk (jK c) s r.l t.l=true:=by
  rw [arOk]
  simp only [jp,jf,beq_eq_false_iff_ne,bne_eq_false_iff_eq,ne_eq] at o
  obtain ⟨⟨⟨D,h2⟩,O⟩,Q⟩:=o
  have D:=JF D
  rw [jJ,jJ,jJ,jd,JH,JD,JD]
  exact ⟨⟨⟨D,h2⟩,by omega⟩,by omega⟩
 have u:=y
 rw [arOk,jJ,jJ,jJ,jd,JH,JD,JD] at u
 obtain ⟨⟨⟨G,R⟩,h0⟩,M⟩:=u
 obtain ⟨n,H⟩:∃ n,r.l.length=n+1:=⟨r.l.length - 1,by omega⟩
 have b:n < r.l.length:=by omega
 have d:n < t.l.length:=by omega
 have i:(n:Int) < r.l.length:=by omega
 have j:(n:Int) < t.l.length:=by omega
 have k:IntKind.i64.wrap ((r.l.length:Int) - 1)=(n:Int):=by rw [zjz (by omega)];omega
 have m:IntKind.i64.wrap ((t.l.length:Int) - 1)=(n:Int):=by rw [zjz (by omega)];omega
 have z:=(zFc G).2 n b
 rw [rmOk,iget b,JD,x] at z
 obtain ⟨p,q⟩:=z
 have a:r.l[n].toNat < c.segments.l.length:=by omega
 have J:zFx (jK c) s r.l t.l=if In t.l[n] 0 2880=true then IntKind.i64.wrap (t.l[n]+zCa s c.segments.l[r.l[n].toNat]) else -1:=by
  rw [zFx,if_pos y,H,uW,iget b,iget d,x,gget a]
 rw [J]
 repeat' first|refine Wa ?_|refine zhF (fun _=>zAA _ _ _ _) ?_|(simp only [go_sem,jq,jj,jy,jv,jk,jx,k,m,zkR f b,f.some b,b,i,zkR g d,g.some d,d,j,zm7 e.2 a,zlh e.2 a,e.2.some a,a,p,q,jW,jY,Jg,JA,JB,JC];try rfl)|refine Wb ?_|fail
 refine zc9 rfl (fun w=>?_) (fun w=>?_)
 ·rw [jd] at w
  rw [if_neg (by rw [In,w];exact qa)]
  exact Wk0
 rw [jf] at w
 rw [if_pos (by rw [In,w])]
 repeat' first|refine Wa ?_|(simp only [go_sem,jq,jj,jy,jv,jk,jx,k,m,zkR f b,f.some b,b,i,zkR g d,g.some d,d,j,zm7 e.2 a,zlh e.2 a,e.2.some a,a,p,q,jW,jY,Jg,JA,JB,JC];try rfl)|refine Wb ?_|fail
 refine zz5 rfl ?_
 refine U_t [0,1,3,4,11,2,5,6,7,8,9,10] rfl ?_
 simp only [go_sem,jq,jj,jy,jv,jk,jx,k,m,zkR f b,f.some b,b,i,zkR g d,g.some d,d,j,zm7 e.2 a,zlh e.2 a,e.2.some a,a,p,q,jW,jY,Jg,JA,JB,JC]
 refine U_1 12 0 [] rfl rfl ?_
 simp only [go_sem,jq,jj,jy,jv,jk,jx,k,m,zkR f b,f.some b,b,i,zkR g d,g.some d,d,j,zm7 e.2 a,zlh e.2 a,e.2.some a,a,p,q,jW,jY,Jg,JA,JB,JC]
 refine zhF (fun _=>zCh _ _ _) ?_
 simp only [go_sem,jq,jj,jy,jv,jk,jx,k,m,zkR f b,f.some b,b,i,zkR g d,g.some d,d,j,zm7 e.2 a,zlh e.2 a,e.2.some a,a,p,q,jW,jY,Jg,JA,JB,JC]
 refine U_t [13,14] rfl ?_
 simp only [go_sem,jq,jj,jy,jv,jk,jx,k,m,zkR f b,f.some b,b,i,zkR g d,g.some d,d,j,zm7 e.2 a,zlh e.2 a,e.2.some a,a,p,q,jW,jY,Jg,JA,JB,JC]
 refine U_d ?_
 exact Wk0
theorem zFH (c:DChart) (ship:Int) (s:DShip) (a:Int) (r t:Sl Int) (h:Hp) (O:jD h c) (R:I64 ship) (X:jD h s) (Y:I64 a) (D:r.Ok h) (Z:t.Ok h) (hz:r.l.length≤1048576):Ct jV 174 [c.v,.int .i64 ship,s.v,.int .i64 a,r.val,t.val] h fun v h'=>∃ q:Sl DPassage,v=q.val∧q.l=zFB (jK c) ship s a r.l t.l∧q.Ok h'∧Mine h h' q:=by
 have hl:=D.max
 have M:(jK c).segments=c.segments.l:=zCd c
 refine zdn (fun A W=>by simp) Tryz.func174 rfl rfl (by simp) fun W0=>?_
 repeat' first|refine Wa ?_|refine zhF (fun _=>zE5 c a r _ O Y D hz) ?_|refine zhF (fun _=>zBH s _ X) ?_|(simp only [go_sem,jq,jj,jy,jv,jk,jx];try rfl)|refine Wb ?_|fail
 refine zc9 rfl (fun K=>?_) (fun K=>?_)
 ·rw [zFC (fun H=>by
   have y:=H.1
   rw [zFA,jJ,jJ,JD] at y
   simp only [y.1.1,y.1.2,y.2,wj,Bool.or_self,wa,bne_self_eq_false,reduceCtorEq] at K)]
  refine Wk ?_
  exact ⟨⟨none,0,[]⟩,rfl,rfl,znE,Mine.nil⟩
 simp only [jp,jf,bne_eq_false_iff_eq] at K
 obtain ⟨⟨hR,hS⟩,hL⟩:=K
 have hL:r.l.length=t.l.length:=by omega
 have aa:zFA (jK c) s a r.l t.l=true:=by rw [zFA,hR,hS,JG hL];rfl
 obtain ⟨hC,ai,pl,N,ab,ag,aj⟩:=zE3 hR
 refine Wk ?_
 refine zkr (zE7 c a r _ O Y D hz) rfl ?_
 rintro v y z ⟨p,rfl,F,pok⟩
 rw [N] at F
 have F:p.l=pl:=F
 have g:jD y c:=jL z O
 have ak:jD y s:=jL z X
 have j:=D.mono z
 have m:=Z.mono z
 refine Wk ?_
 refine zng (ι:=Nat) (fun k=>⟨[(1,true,.c (.v (.int .i64 ship))),(5,true,.c (.v t.val)),(6,true,.c (.p 0 0)),(8,true,.c (.p 1 0)),(12,true,.c (.v (.slice none 0 0))),(13,true,.c (.s 2)),(14,true,.c (.v p.val)),(39,true,.c (.v r.val)),(40,true,.c (.v (.int .i64 r.l.length))),(41,true,.c (.v (.int .i64 k)))],[(0,.box 57 [.v c.points.val,.v c.segments.val]),(1,.box 157 [.v (.string s.name),.v (.int .i64 s.length),.v (.int .i64 s.draught),.v (.int .i64 s.line),.v (.int .i64 s.tugs),.v (.bool s.slow)]),(2,.row 222 5 (pasL (jK c) ship s p.l r.l t.l k).length ((pasL (jK c) ship s p.l r.l t.l k).flatMap qx))],y,3⟩) (fun k=>k≤r.l.length∧∀ i,i < k→In (t.l.getD i 0) 0 2880=true) (fun k=>r.l.length - k) 0 ⟨jC _,zBu⟩ [0,1,2] ?_ ?_
 ·refine Evs ?_
  exact Gk
 intro k hk
 refine Wk ?_
 refine zc9 rfl (fun Q=>?_) (fun Q=>?_)
 ·have f:=zjH Q
  have u:(k:Int) < r.l.length:=by omega
  have b:k < t.l.length:=by omega
  have n:(k:Int) < t.l.length:=by omega
  have d:k < p.l.length:=by rw [F];omega
  have o:(k:Int) < p.l.length:=by omega
  have G:=zE4 ab (qV _) k f f
  rw [M] at G
  obtain ⟨w,x⟩:=G
  have e:r.l[k].toNat < c.segments.l.length:=by omega
  repeat' first|refine Wa ?_|refine zhF (fun _=>zAA _ _ _ _) ?_|(simp only [go_sem,jq,jj,jy,jv,jk,jx,zkR j f,j.some f,f,u,zkR m b,m.some b,b,n,jW,jY];try rfl)|refine Wb ?_|fail
  refine zc9 rfl (fun J=>?_) (fun J=>?_)
  ·rw [jd] at J
   rw [zFC (fun H=>by
    have:=H.2 k f
    rw [iget b,In,J] at this;cases this)]
   refine Wk ?_
   exact ⟨⟨none,0,[]⟩,rfl,rfl,znE,Mine.nil⟩
  rw [jf] at J
  have ah:=zFE (c:=jK c) (ship:=ship) (s:=s) (pts:=p.l) (r:=r.l) (st:=t.l) (k:=k)
  have ac:zFz (jK c) ship s p.l r.l t.l k=⟨ship,r.l[k],p.l[k] == c.segments.l[r.l[k].toNat].a,t.l[k],IntKind.i64.wrap (t.l[k]+zCa s c.segments.l[r.l[k].toNat])⟩:=by
   rw [zFz,iget f,iget b,iget d,M,gget e]
  repeat' first|refine Wa ?_|(simp only [go_sem,jq,jj,jy,jv,jk,jx,zkR pok d,pok.some d,d,o,zkR j f,j.some f,f,u,zkR m b,m.some b,b,n,jW,jY,zm7 g.2 e,zlh g.2 e,g.2.some e,e,w,x,Jg,JA,JB,JC];try rfl)|refine Wb ?_|fail
  refine zz5 rfl ?_
  refine U_t [0,1,2,3,5,9,10,14,15,18,19,22,24,27,4,11,16,20,23,6,12,17,21,25,7,26,8,13] rfl ?_
  simp only [go_sem,jq,jj,jy,jv,jk,jx,zkR pok d,pok.some d,d,o,zkR j f,j.some f,f,u,zkR m b,m.some b,b,n,jW,jY,zm7 g.2 e,zlh g.2 e,g.2.some e,e,w,x,Jg,JA,JB,JC]
  refine U_1 28 0 [13,8,7,21,17,12,6,20,16,11,4,3] rfl rfl ?_
  simp only [go_sem,jq,jj,jy,jv,jk,jx,zkR pok d,pok.some d,d,o,zkR j f,j.some f,f,u,zkR m b,m.some b,b,n,jW,jY,zm7 g.2 e,zlh g.2 e,g.2.some e,e,w,x,Jg,JA,JB,JC]
  refine zhF (fun _=>zCh _ _ _) ?_
  simp only [go_sem,jq,jj,jy,jv,jk,jx,zkR pok d,pok.some d,d,o,zkR j f,j.some f,f,u,zkR m b,m.some b,b,n,jW,jY,zm7 g.2 e,zlh g.2 e,g.2.some e,e,w,x,Jg,JA,JB,JC]
  refine U_t [29] rfl ?_
  simp only [go_sem,jq,jj,jy,jv,jk,jx,zkR pok d,pok.some d,d,o,zkR j f,j.some f,f,u,zkR m b,m.some b,b,n,jW,jY,zm7 g.2 e,zlh g.2 e,g.2.some e,e,w,x,Jg,JA,JB,JC]
  refine U_1 30 0 [] rfl rfl ?_
  simp only [go_sem,jq,jj,jy,jv,jk,jx,zkR pok d,pok.some d,d,o,zkR j f,j.some f,f,u,zkR m b,m.some b,b,n,jW,jY,zm7 g.2 e,zlh g.2 e,g.2.some e,e,w,x,Jg,JA,JB,JC]
  refine U_1 31 0 [] rfl rfl ?_
  simp only [go_sem,jq,jj,jy,jv,jk,jx,zkR pok d,pok.some d,d,o,zkR j f,j.some f,f,u,zkR m b,m.some b,b,n,jW,jY,zm7 g.2 e,zlh g.2 e,g.2.some e,e,w,x,Jg,JA,JB,JC]
  refine U_1 32 0 [] rfl rfl ?_
  simp only [go_sem,jq,jj,jy,jv,jk,jx,zkR pok d,pok.some d,d,o,zkR j f,j.some f,f,u,zkR m b,m.some b,b,n,jW,jY,zm7 g.2 e,zlh g.2 e,g.2.some e,e,w,x,Jg,JA,JB,JC]
  refine ⟨by simp only [maxLen];omega,by omega,?_⟩
  refine U_t [33] rfl ?_
  simp only [go_sem,jq,jj,jy,jv,jk,jx,zkR pok d,pok.some d,d,o,zkR j f,j.some f,f,u,zkR m b,m.some b,b,n,jW,jY,zm7 g.2 e,zlh g.2 e,g.2.some e,e,w,x,Jg,JA,JB,JC]
  refine U_d ?_
  refine Wk ?_
  refine ⟨k+1,[0,1,4],⟨f,zBs hk.2 (by rw [iget b,In];exact J)⟩,by omega,?_⟩
  refine Evs ?_
  rw [zFD,jF,jP,ac,show (c.segments.l[r.l[k].toNat].a == p.l[k])=(p.l[k] == c.segments.l[r.l[k].toNat].a) from by rw [yq,beq_iff_eq,beq_iff_eq];exact eq_comm]
  exact Gi (zjA f (by omega))
 ·have al:=zjI Q
  have ae:k=r.l.length:=by omega
  subst ae
  refine zc6 ?_
  refine Evs ?_
  refine zl7 2 (pasL (jK c) ship s p.l r.l t.l r.l.length) rfl rfl rfl rfl (by decide) (zFF R D Z (qV _) (by omega)) h z (Mines.flat (fun _=>rfl) (fun _=>trivial)) fun q h' e2 e3 e4 e5=>?_
  refine Wk ?_
  refine ⟨q,rfl,?_,e3,e5⟩
  rw [e2,zFB,if_pos ⟨aa,fun i hi=>hk.2 i hi⟩,N,F];rfl
theorem zFI (c:DChart) (s:DShip) (r t:Sl Int) (h:Hp) (e:jD h c) (F:jD h s) (f:r.Ok h) (g:t.Ok h):Ct jV 180 [c.v,s.v,r.val,t.val] h fun v h'=>v=.int .i64 (zFx (jK c) s r.l t.l)∧h'=h:=by
 have N:=f.max
 have K:=g.max
 have x:(jK c).segments=c.segments.l:=zCd c
 refine zdn (fun A W=>by simp) Tryz.func180 rfl rfl (by simp) fun W0=>?_
 repeat' first|refine Wa ?_|refine zhF (fun _=>zFe c r _ e f) ?_|refine zhF (fun _=>zBL s _ F) ?_|(simp only [go_sem,jq,jj,jy,jv,jk,jx];try rfl)|refine Wb ?_|fail
 refine zc9 rfl (fun o=>?_) (fun o=>?_)
 ·rw [zFy (by
   rw [arOk]
   simp only [jQ,jd,beq_iff_eq,bne_iff_ne] at o
   rw [qA,qA,qA,jf,JH,JH,JD]
   rcases o with ((o|o)|o)|o
   ·exact .inl (.inl (.inl (JE o)))
   ·exact .inl (.inl (.inr o))
   ·first|exact .inl (.inr (by omega))|exact .inr (by omega)
   ·first|exact .inr (by omega)|exact .inl (.inr (by omega)))]
  exact Wk0
 have y:arOk (jK c) s r.l t.l=true:=by
  rw [arOk]
  simp only [jp,jf,beq_eq_false_iff_ne,bne_eq_false_iff_eq,ne_eq] at o
  obtain ⟨⟨⟨D,h2⟩,O⟩,Q⟩:=o
  have D:=JF D
  rw [jJ,jJ,jJ,jd,JH,JD,JD]
  exact ⟨⟨⟨D,h2⟩,by omega⟩,by omega⟩
 have u:=y
 rw [arOk,jJ,jJ,jJ,jd,JH,JD,JD] at u
 obtain ⟨⟨⟨G,R⟩,h0⟩,M⟩:=u
 obtain ⟨n,H⟩:∃ n,r.l.length=n+1:=⟨r.l.length - 1,by omega⟩
 have b:n < r.l.length:=by omega
 have d:n < t.l.length:=by omega
 have i:(n:Int) < r.l.length:=by omega
 have j:(n:Int) < t.l.length:=by omega
 have k:IntKind.i64.wrap ((r.l.length:Int) - 1)=(n:Int):=by rw [zjz (by omega)];omega
 have m:IntKind.i64.wrap ((t.l.length:Int) - 1)=(n:Int):=by rw [zjz (by omega)];omega
 have z:=(zFc G).2 n b
 rw [rmOk,iget b,JD,x] at z
 obtain ⟨p,q⟩:=z
 have a:r.l[n].toNat < c.segments.l.length:=by omega
 have J:zFx (jK c) s r.l t.l=if In t.l[n] 0 2880=true then IntKind.i64.wrap (t.l[n]+zCa s c.segments.l[r.l[n].toNat]) else -1:=by
  rw [zFx,if_pos y,H,uW,iget b,iget d,x,gget a]
 rw [J]
 repeat' first|refine Wa ?_|refine zhF (fun _=>zAC _ _) ?_|(simp only [go_sem,jq,jj,jy,jv,jk,jx,k,m,zkR f b,f.some b,b,i,zkR g d,g.some d,d,j,zm7 e.2 a,zlh e.2 a,e.2.some a,a,p,q,jW,jY,Jg,JA,JB,JC];try rfl)|refine Wb ?_|fail
 refine zc9 rfl (fun w=>?_) (fun w=>?_)
 ·rw [jd] at w
  rw [if_neg (by rw [In,w];exact qa)]
  exact Wk0
 rw [jf] at w
 rw [if_pos (by rw [In,w])]
 repeat' first|refine Wa ?_|(simp only [go_sem,jq,jj,jy,jv,jk,jx,k,m,zkR f b,f.some b,b,i,zkR g d,g.some d,d,j,zm7 e.2 a,zlh e.2 a,e.2.some a,a,p,q,jW,jY,Jg,JA,JB,JC];try rfl)|refine Wb ?_|fail
 refine zz5 rfl ?_
 refine U_t [0,1,4,5,7,8,2,6,9,3,10,11,12] rfl ?_
 simp only [go_sem,jq,jj,jy,jv,jk,jx,k,m,zkR f b,f.some b,b,i,zkR g d,g.some d,d,j,zm7 e.2 a,zlh e.2 a,e.2.some a,a,p,q,jW,jY,Jg,JA,JB,JC]
 refine U_1 13 0 [3,2] rfl rfl ?_
 simp only [go_sem,jq,jj,jy,jv,jk,jx,k,m,zkR f b,f.some b,b,i,zkR g d,g.some d,d,j,zm7 e.2 a,zlh e.2 a,e.2.some a,a,p,q,jW,jY,Jg,JA,JB,JC]
 refine zhF (fun _=>zCi _ _ _) ?_
 simp only [go_sem,jq,jj,jy,jv,jk,jx,k,m,zkR f b,f.some b,b,i,zkR g d,g.some d,d,j,zm7 e.2 a,zlh e.2 a,e.2.some a,a,p,q,jW,jY,Jg,JA,JB,JC]
 refine U_t [14,15] rfl ?_
 simp only [go_sem,jq,jj,jy,jv,jk,jx,k,m,zkR f b,f.some b,b,i,zkR g d,g.some d,d,j,zm7 e.2 a,zlh e.2 a,e.2.some a,a,p,q,jW,jY,Jg,JA,JB,JC]
 refine U_d ?_
 exact Wk0
theorem zFJ (c:DChart) (ship:Int) (s:DShip) (a:Int) (r t:Sl Int) (h:Hp) (O:jD h c) (R:I64 ship) (X:jD h s) (Y:I64 a) (D:r.Ok h) (Z:t.Ok h) (hz:r.l.length≤1048576):Ct jV 179 [c.v,.int .i64 ship,s.v,.int .i64 a,r.val,t.val] h fun v h'=>∃ q:Sl DPassage,v=q.val∧q.l=zFB (jK c) ship s a r.l t.l∧q.Ok h'∧Mine h h' q:=by
 have hl:=D.max
 have M:(jK c).segments=c.segments.l:=zCd c
 refine zdn (fun A W=>by simp) Tryz.func179 rfl rfl (by simp) fun W0=>?_
 repeat' first|refine Wa ?_|refine zhF (fun _=>zE6 c a r _ O Y D hz) ?_|refine zhF (fun _=>zBL s _ X) ?_|(simp only [go_sem,jq,jj,jy,jv,jk,jx];try rfl)|refine Wb ?_|fail
 refine zc9 rfl (fun K=>?_) (fun K=>?_)
 ·rw [zFC (fun H=>by
   have y:=H.1
   rw [zFA,jJ,jJ,JD] at y
   simp only [y.1.1,y.1.2,y.2,wj,Bool.or_self,wa,bne_self_eq_false,reduceCtorEq] at K)]
  refine Wk ?_
  exact ⟨⟨none,0,[]⟩,rfl,rfl,znE,Mine.nil⟩
 simp only [jp,jf,bne_eq_false_iff_eq] at K
 obtain ⟨⟨hR,hS⟩,hL⟩:=K
 have hL:r.l.length=t.l.length:=by omega
 have aa:zFA (jK c) s a r.l t.l=true:=by rw [zFA,hR,hS,JG hL];rfl
 obtain ⟨hC,ai,pl,N,ab,ag,aj⟩:=zE3 hR
 refine Wk ?_
 refine zkr (zE8 c a r _ O Y D hz) rfl ?_
 rintro v y z ⟨p,rfl,F,pok⟩
 rw [N] at F
 have F:p.l=pl:=F
 have g:jD y c:=jL z O
 have ak:jD y s:=jL z X
 have j:=D.mono z
 have m:=Z.mono z
 refine Wk ?_
 refine zng (ι:=Nat) (fun k=>⟨[(1,true,.c (.v (.int .i64 ship))),(5,true,.c (.v t.val)),(6,true,.c (.p 0 0)),(8,true,.c (.p 1 0)),(12,true,.c (.v (.slice none 0 0))),(13,true,.c (.v p.val)),(14,true,.c (.s 2)),(40,true,.c (.v r.val)),(41,true,.c (.v (.int .i64 r.l.length))),(42,true,.c (.v (.int .i64 k)))],[(0,.box 57 [.v c.points.val,.v c.segments.val]),(1,.box 157 [.v (.string s.name),.v (.int .i64 s.length),.v (.int .i64 s.draught),.v (.int .i64 s.line),.v (.int .i64 s.tugs),.v (.bool s.slow)]),(2,.row 222 5 (pasL (jK c) ship s p.l r.l t.l k).length ((pasL (jK c) ship s p.l r.l t.l k).flatMap qx))],y,3⟩) (fun k=>k≤r.l.length∧∀ i,i < k→In (t.l.getD i 0) 0 2880=true) (fun k=>r.l.length - k) 0 ⟨jC _,zBu⟩ [0,1,2] ?_ ?_
 ·refine Evs ?_
  exact Gk
 intro k hk
 refine Wk ?_
 refine zc9 rfl (fun Q=>?_) (fun Q=>?_)
 ·have f:=zjH Q
  have u:(k:Int) < r.l.length:=by omega
  have b:k < t.l.length:=by omega
  have n:(k:Int) < t.l.length:=by omega
  have d:k < p.l.length:=by rw [F];omega
  have o:(k:Int) < p.l.length:=by omega
  have G:=zE4 ab (qV _) k f f
  rw [M] at G
  obtain ⟨w,x⟩:=G
  have e:r.l[k].toNat < c.segments.l.length:=by omega
  repeat' first|refine Wa ?_|refine zhF (fun _=>zAC _ _) ?_|(simp only [go_sem,jq,jj,jy,jv,jk,jx,zkR j f,j.some f,f,u,zkR m b,m.some b,b,n,jW,jY];try rfl)|refine Wb ?_|fail
  refine zc9 rfl (fun J=>?_) (fun J=>?_)
  ·rw [jd] at J
   rw [zFC (fun H=>by
    have:=H.2 k f
    rw [iget b,In,J] at this;cases this)]
   refine Wk ?_
   exact ⟨⟨none,0,[]⟩,rfl,rfl,znE,Mine.nil⟩
  rw [jf] at J
  have ah:=zFE (c:=jK c) (ship:=ship) (s:=s) (pts:=p.l) (r:=r.l) (st:=t.l) (k:=k)
  have ac:zFz (jK c) ship s p.l r.l t.l k=⟨ship,r.l[k],p.l[k] == c.segments.l[r.l[k].toNat].a,t.l[k],IntKind.i64.wrap (t.l[k]+zCa s c.segments.l[r.l[k].toNat])⟩:=by
   rw [zFz,iget f,iget b,iget d,M,gget e]
  repeat' first|refine Wa ?_|(simp only [go_sem,jq,jj,jy,jv,jk,jx,zkR pok d,pok.some d,d,o,zkR j f,j.some f,f,u,zkR m b,m.some b,b,n,jW,jY,zm7 g.2 e,zlh g.2 e,g.2.some e,e,w,x,Jg,JA,JB,JC];try rfl)|refine Wb ?_|fail
  refine zz5 rfl ?_
  refine U_t [0,1,2,3,4,7,10,11,14,15,18,19,5,8,12,16,6,13,17,9] rfl ?_
  simp only [go_sem,jq,jj,jy,jv,jk,jx,zkR pok d,pok.some d,d,o,zkR j f,j.some f,f,u,zkR m b,m.some b,b,n,jW,jY,zm7 g.2 e,zlh g.2 e,g.2.some e,e,w,x,Jg,JA,JB,JC]
  refine U_1 20 0 [9,17,13,6,16,12,8,5,7] rfl rfl ?_
  simp only [go_sem,jq,jj,jy,jv,jk,jx,zkR pok d,pok.some d,d,o,zkR j f,j.some f,f,u,zkR m b,m.some b,b,n,jW,jY,zm7 g.2 e,zlh g.2 e,g.2.some e,e,w,x,Jg,JA,JB,JC]
  refine zhF (fun _=>zCi _ _ _) ?_
  simp only [go_sem,jq,jj,jy,jv,jk,jx,zkR pok d,pok.some d,d,o,zkR j f,j.some f,f,u,zkR m b,m.some b,b,n,jW,jY,zm7 g.2 e,zlh g.2 e,g.2.some e,e,w,x,Jg,JA,JB,JC]
  refine U_t [21] rfl ?_
  simp only [go_sem,jq,jj,jy,jv,jk,jx,zkR pok d,pok.some d,d,o,zkR j f,j.some f,f,u,zkR m b,m.some b,b,n,jW,jY,zm7 g.2 e,zlh g.2 e,g.2.some e,e,w,x,Jg,JA,JB,JC]
  refine U_1 22 0 [] rfl rfl ?_
  simp only [go_sem,jq,jj,jy,jv,jk,jx,zkR pok d,pok.some d,d,o,zkR j f,j.some f,f,u,zkR m b,m.some b,b,n,jW,jY,zm7 g.2 e,zlh g.2 e,g.2.some e,e,w,x,Jg,JA,JB,JC]
  refine U_1 23 0 [] rfl rfl ?_
  simp only [go_sem,jq,jj,jy,jv,jk,jx,zkR pok d,pok.some d,d,o,zkR j f,j.some f,f,u,zkR m b,m.some b,b,n,jW,jY,zm7 g.2 e,zlh g.2 e,g.2.some e,e,w,x,Jg,JA,JB,JC]
  refine U_1 24 0 [] rfl rfl ?_
  simp only [go_sem,jq,jj,jy,jv,jk,jx,zkR pok d,pok.some d,d,o,zkR j f,j.some f,f,u,zkR m b,m.some b,b,n,jW,jY,zm7 g.2 e,zlh g.2 e,g.2.some e,e,w,x,Jg,JA,JB,JC]
  refine ⟨by simp only [maxLen];omega,by omega,?_⟩
  refine U_t [25] rfl ?_
  simp only [go_sem,jq,jj,jy,jv,jk,jx,zkR pok d,pok.some d,d,o,zkR j f,j.some f,f,u,zkR m b,m.some b,b,n,jW,jY,zm7 g.2 e,zlh g.2 e,g.2.some e,e,w,x,Jg,JA,JB,JC]
  refine U_d ?_
  refine Wk ?_
  refine ⟨k+1,[0,1,5],⟨f,zBs hk.2 (by rw [iget b,In];exact J)⟩,by omega,?_⟩
  refine Evs ?_
  rw [zFD,jF,jP,ac]
  exact Gi (zjA f (by omega))
 ·have al:=zjI Q
  have ae:k=r.l.length:=by omega
  subst ae
  refine zc6 ?_
  refine Evs ?_
  refine zl7 2 (pasL (jK c) ship s p.l r.l t.l r.l.length) rfl rfl rfl rfl (by decide) (zFF R D Z (qV _) (by omega)) h z (Mines.flat (fun _=>rfl) (fun _=>trivial)) fun q h' e2 e3 e4 e5=>?_
  refine Wk ?_
  refine ⟨q,rfl,?_,e3,e5⟩
  rw [e2,zFB,if_pos ⟨aa,fun i hi=>hk.2 i hi⟩,N,F];rfl
end Go.Proofs.YtbkaaakphpbmiaaGreat
