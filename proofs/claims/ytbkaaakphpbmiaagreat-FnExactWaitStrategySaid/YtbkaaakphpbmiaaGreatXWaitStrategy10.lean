/- What functions of the given program compute, as contracts. -/
import Derived.Test.YtbkaaakphpbmiaaGreatSWaitStrategyx3
import Derived.Test.YtbkaaakphpbmiaaGreatXWaitStrategy6
import Derived.Test.YtbkaaakphpbmiaaGreatXWaitStrategy7
import Derived.Test.YtbkaaakphpbmiaaGreatXWaitStrategy8
import Derived.Test.YtbkaaakphpbmiaaGreatXWaitStrategy9
set_option linter.unusedVariables false
set_option linter.unusedSimpArgs false
set_option maxRecDepth 4000
open Nat renaming reduceAdd → jq, reduceMul → jj, reduceBEq → jy, reduceLeDiff → jv, reduceLT → jk, reduceEqDiff → jx, zero_mul → jA, zero_le → jC, le_refl → qV, not_lt_zero → qE, mul_one → wy, lt_or_ge → wv, eq_zero_or_pos → we, le_antisymm → wE, pow_le_pow_right → wG, lt_of_lt_of_le → yK, add_mul → yP, one_mul → JQ, lt_succ_self → Jc
open Bool renaming or_eq_false_iff → jp, or_eq_true → jQ, and_eq_true → jJ, not_eq_true' → jd, not_eq_false' → jf, true_and → qp, false_eq_true → qW, and_false → qP, false_ne_true → qa, false_and → qc, and_eq_false_iff → qA, not_false → wq, not_true → wj, and_true → wJ, false_or → wa, or_false → wC, eq_iff_iff → yq, true_or → yw, or_true → uw
open Int renaming toNat_natCast → jW, natCast_nonneg → jY, toNat_zero → je, le_refl → qF
open Go.SL.Con renaming con → jK
open List renaming length_append → jP, getD_eq_getElem?_getD → ja, length_singleton → jg, flatMap_append → jF, length_map → jH, take_succ_eq_append_getElem → qw, take_of_length_le → qy, length_cons → qv, getElem?_eq_getElem → qX, getElem_mem → qd, mem_cons_of_mem → qg, map_append → qB, mem_cons_self → qC, take_length → qG, getElem_map → qH, getElem_of_mem → qL, length_take → ww, map_cons → wx, replicate → wQ, flatMap_cons → wV, map_congr_left → wb, length_set → wc, range → wg, getElem?_append_left → wF, foldl_cons → wH, map_map → yj, take_append_drop → yk, append_assoc → yx, foldl_append → yp, append_nil → yJ, length_replicate → yV, getElem?_map → yC, map_nil → yD, length_range → uQ, foldl_nil → uY, getElem_range → ua, length → ud, flatMap_nil → uH, take → Jq, ext_getElem → Jj, map_replicate → JV
open Option renaming getD_some → jc, map → qe, bind_some → yf
open Go.SL.Hp renaming le_trans → jB, le_refl → wW
open Go.SL.Enc renaming ok → jD, mono → jL, enc → qx
open Go.Proofs.Tryz renaming prog → jV
namespace Go.Proofs.YtbkaaakphpbmiaaGreat
open Go Go.SL
set_option maxHeartbeats 1000000
def zGN (f:PForecast) (c:PChart) (s:DShip) (a:Int) (r:List Int) (st:Int):Option (List Int):=if voOk f c s a r=true then zGD (zGw c ((zEi c a r).getD []) r.length) (minL c s r r.length) (zGx f c s r r.length) st else none
def zGO (x:PHarbour) (a:DCall) (r:List Int):Bool:=match zEi x.chart a.src r with|none=>false|some l=>decide (l.getD r.length 0=a.dst)
def zGP (x:PHarbour) (a:DCall):DShip:=x.fleet.getD a.ship.toNat dH
def cvOk (x:PHarbour) (a:DCall) (r:List Int):Bool:=zGO x a r && voOk x.forecast x.chart (zGP x a) a.src r
theorem zGQ {x:DHarbour} {a:DCall} (h:zBZ (jK x) a=true):zBb (jK x.forecast)=true∧zBp (jK x.chart)=true∧(∃ b:a.ship.toNat < x.fleet.l.length,zGP (jK x) a=x.fleet.l[a.ship.toNat]∧zBA x.fleet.l[a.ship.toNat]=true)∧0≤a.ship∧a.ship < x.fleet.l.length∧0≤a.src∧a.src < x.chart.points.l.length∧0≤a.dst∧a.dst < x.chart.points.l.length∧a.src ≠ a.dst∧0≤a.ready∧a.ready≤2880∧a.ready≤a.due∧a.due≤2880:=by
 rw [zBZ,zBV,zB0,jJ,jJ,jJ,jJ,jJ,JD] at h
 obtain ⟨⟨⟨⟨⟨e,h2⟩,c⟩,f⟩,g⟩,i⟩:=h
 have b:a.ship.toNat < x.fleet.l.length:=by omega
 have d:zGP (jK x) a=x.fleet.l[a.ship.toNat]:=by
  rw [zGP,show (jK x).fleet=x.fleet.l from zBi _,hget b]
 refine ⟨e,h2,⟨b,d,?_⟩,by omega⟩
 rw [zBB,jJ,JD,JD] at c
 have:=c.2 _ b
 rw [shOk,hget b,jJ] at this
 exact this.1
theorem zGR {x:DHarbour} {a:DCall} {r:List Int} (h:zBZ (jK x) a=true):voOk (jK x.forecast) (jK x.chart) (zGP (jK x) a) a.src r=(zEZ (jK x.chart) a.src r && decide (0 < r.length)):=by
 obtain ⟨b,h2,⟨d,e,c⟩,_⟩:=zGQ h
 rw [voOk,b,e,c];rfl
theorem zGS (f:DForecast) (c:DChart) (s:DShip) (r:Sl Int) (h:Hp) (H:jD h f) (J:jD h c) (K:jD h s) (t:r.Ok h) (hz:r.l.length≤1048576):Ct jV 165 [f.v,c.v,s.v,r.val] h fun v h'=>∃ u:Sl (Sl DWindow),v=u.val∧u.l.map (·.l)=zGx (jK f) (jK c) s r.l r.l.length∧u.Ok h':=by
 have hl:=t.max
 refine zdn (fun A W=>by simp) Tryz.func165 rfl rfl (by simp) fun W0=>?_
 refine Wk ?_
 refine zng (ι:=Nat × List (Sl DWindow) × Hp) (fun i=>⟨[(4,true,.c (.p 0 0)),(5,true,.c (.p 1 0)),(6,true,.c (.p 2 0)),(8,true,.c (.v (.slice none 0 0))),(9,true,.c (.s 3)),(13,true,.c (.v r.val)),(14,true,.c (.v (.int .i64 r.l.length))),(15,true,.c (.v (.int .i64 i.1)))],[(0,.box 53 [.v (.int .i64 f.tide.mean),.v f.tide.parts.val,.v f.surges.val]),(1,.box 57 [.v c.points.val,.v c.segments.val]),(2,.box 157 [.v (.string s.name),.v (.int .i64 s.length),.v (.int .i64 s.draught),.v (.int .i64 s.line),.v (.int .i64 s.tugs),.v (.bool s.slow)]),(3,.row 283 1 i.1 (i.2.1.flatMap qx))],i.2.2,4⟩) (fun i=>i.1≤r.l.length∧i.2.1.map (·.l)=zGx (jK f) (jK c) s r.l i.1∧(∀ q ∈ i.2.1,jD i.2.2 q)∧h.le i.2.2) (fun i=>r.l.length - i.1) (0,[],h) ⟨jC _,rfl,fun _ h=>(by cases h),wW _⟩ [0,1,2,3] ?_ ?_
 ·refine Evs ?_
  exact Gk
 rintro ⟨k,us,m⟩ ⟨w,g,e,a⟩
 simp only at w g e a
 have y:us.length=k:=by have:=congrArg ud g;rwa [jH,zGx,rmap_len] at this
 have M:jD m f:=jL a H
 have N:jD m c:=jL a J
 have O:jD m s:=jL a K
 have r2:=t.mono a
 refine Wk ?_
 refine zc9 rfl (fun n=>?_) (fun n=>?_)
 ·have b:=zjH n
  repeat' first|refine Wa ?_|(simp only [go_sem,jq,jj,jy,jv,jk,jx,zkR r2 b,r2.some b,b,jW];try rfl)|refine Wb ?_|fail
  refine zkr (zD3 f c r.l[k] s _ M N O) rfl ?_
  rintro v Q j ⟨q,rfl,R,z,mq⟩
  refine Evs ?_
  refine ⟨by simp only [maxLen];omega,by omega,?_⟩
  refine Wk ?_
  refine ⟨(k+1,us ++ [q],Q),[0,1,2,5],⟨b,?_,fun X d=>?_,jB a j⟩,by simp only;omega,?_⟩
  ·rw [qB,g,zGx,zGx,zGy,iget b,← R];rfl
  ·rcases List.mem_append.1 d with d|d
   ·exact jL j (e X d)
   ·rw [List.mem_singleton.1 d];exact z
  have Y:=jB a j
  refine Evs ?_
  simp only [jF]
  exact Gi (zjA b (by omega))
 ·have aa:=zjI n
  obtain rfl:k=r.l.length:=by omega
  refine zc6 ?_
  refine Evs ?_
  refine zD5 3 us rfl rfl y.symm rfl fun u D F Z fu o ku=>?_
  have o:m.le D:=o
  have G:u.Ok D:=Z.ok (by decide) fun x hx=>jL o (e x (by rw [← F];exact hx))
  refine Wk ?_
  exact ⟨u,rfl,by rw [F,g],G⟩
theorem zGT (x:DHarbour) (a:DCall) (r:Sl Int) (h:Hp) (G:jD h x) (H:jD h a) (J:r.Ok h) (k:r.l.length≤1048576) (K:zBZ (jK x) a=true):Ct jV 99 [x.v,a.v,r.val] h fun v h'=>∃ (w:Sl Bool) (m:Sl Int) (u:Sl (Sl DWindow)),v=.tuple #[.agg #[w.val,m.val,u.val],.bool (cvOk (jK x) a r.l)]∧w.Ok h'∧m.Ok h'∧u.Ok h'∧(cvOk (jK x) a r.l=true→w.l=zGw (jK x.chart) ((zEi (jK x.chart) a.src r.l).getD []) r.l.length∧m.l=minL (jK x.chart) (zGP (jK x) a) r.l r.l.length∧u.l.map (·.l)=zGx (jK x.forecast) (jK x.chart) (zGP (jK x) a) r.l r.l.length):=by
 obtain ⟨aa,ab,⟨b,M,ac⟩,d,f,_⟩:=zGQ K
 refine zdn (fun A W=>by simp) Tryz.func99 rfl rfl (by simp) fun W0=>?_
 refine Wk ?_
 refine zkr (zE8 x.chart a.src r _ G.2.1 H.2.1 J k) rfl ?_
 rintro v Y t ⟨p,rfl,g,pok⟩
 have c:jD Y x:=jL t G
 have Z:=J.mono t
 refine Wk ?_
 cases i:zEi (jK x.chart) a.src r.l with
 | none =>
  have n:cvOk (jK x) a r.l=false:=by
   rw [cvOk,zGO,show (jK x).chart=jK x.chart from rfl,i];rfl
  rw [i] at g
  have y:p.l.length=0:=by rw [g];rfl
  have N:((p.l.length:Int) == 0)=true:=by rw [y];rfl
  have O:((1:Int) < p.l.length)=False:=eq_false (by omega)
  rw [n]
  refine zz5 rfl ?_
  refine U_t [0,1,2,3,4,5,10,6,11,7,8,9,12,13] rfl ?_
  simp only [go_sem,jq,jj,jy,jv,jk,jx,N,O,reduceCtorEq,decide_true,decide_false,wj,wq,yw,wa,wC,uw,qp,qc,wJ,qP,qW,false_implies,Jg,JA]
  refine U_d ?_
  refine Wk ?_
  refine zc9 rfl (fun k=>?_) (fun k=>?_)
  case refine_2=>cases k
  refine Wk ?_
  first|exact ⟨⟨none,0,[]⟩,⟨none,0,[]⟩,⟨none,0,[]⟩,rfl,znE,znE,znE⟩|exact ⟨⟨none,0,[]⟩,⟨none,0,[]⟩,⟨none,0,[]⟩,rfl,znE,znE,znE,fun e=>by cases e⟩
 | some pl =>
  have Q:zEZ (jK x.chart) a.src r.l=true:=by rw [zEZ,i];rfl
  obtain ⟨hC,ae,R,o,ag,s,ah⟩:=zE3 Q
  rw [i] at o
  obtain rfl:pl=R:=Option.some.inj o
  rw [i] at g
  have g:p.l=pl:=g
  have ai:p.l.length=r.l.length+1:=by rw [g];exact s
  have j:r.l.length < p.l.length:=by omega
  have z:(r.l.length:Int) < p.l.length:=by omega
  have D:IntKind.i64.wrap ((p.l.length:Int) - 1)=(r.l.length:Int):=by rw [zjz (by omega)];omega
  have F:((p.l.length:Int) == 0)=false:=by rw [beq_eq_false_iff_ne];omega
  refine zz5 rfl ?_
  refine U_t [0,1,2,3,4,5,10,6,11,7,8,9,12,13] rfl ?_
  simp only [go_sem,jq,jj,jy,jv,jk,jx,F,D,zkR pok j,pok.some j,j,z,jW,jY,Jg,JA,JB,JC,reduceCtorEq,decide_true,decide_false,wj,wq,yw,wa,wC,uw,qp,qc,wJ,qP,qW,false_implies,Jg,JA]
  refine U_d ?_
  refine Wk ?_
  refine zc9 rfl (fun q=>?_) (fun q=>?_)
  ·have n:cvOk (jK x) a r.l=false:=by
    rw [cvOk,zGO,show (jK x).chart=jK x.chart from rfl,i]
    dsimp only
    rw [← g,iget j,decide_eq_false (by simpa using q)];rfl
   rw [n]
   refine Wk ?_
   first|exact ⟨⟨none,0,[]⟩,⟨none,0,[]⟩,⟨none,0,[]⟩,rfl,znE,znE,znE⟩|exact ⟨⟨none,0,[]⟩,⟨none,0,[]⟩,⟨none,0,[]⟩,rfl,znE,znE,znE,fun e=>by cases e⟩
  have X:zGO (jK x) a r.l=true:=by
   rw [zGO,show (jK x).chart=jK x.chart from rfl,i]
   dsimp only
   rw [← g,iget j,JG (by simpa using q)]
  rw [cvOk,X,qp,M]
  repeat' first|refine Wa ?_|(simp only [go_sem,jq,jj,jy,jv,jk,jx,zm8 c.2.2.1 b,zln c.2.2.1 b,c.2.2.1.some b,b,d,f,jW,Jg,JA,JB,JC];try rfl)|refine Wb ?_|fail
  refine zz5 rfl ?_
  refine U_t [0,2,4,6,10,12,1,3,5,7,11,8,9] rfl ?_
  simp only [go_sem,jq,jj,jy,jv,jk,jx,zm8 c.2.2.1 b,zln c.2.2.1 b,c.2.2.1.some b,b,d,f,jW,Jg,JA,JB,JC]
  refine U_1 13 0 [] rfl rfl ?_
  simp only [go_sem,jq,jj,jy,jv,jk,jx,zm8 c.2.2.1 b,zln c.2.2.1 b,c.2.2.1.some b,b,d,f,jW,Jg,JA,JB,JC]
  refine zkr (zGz x.forecast x.chart x.fleet.l[a.ship.toNat] a.src r _ c.1 c.2.1 (c.2.2.1.el b) H.2.1 Z k) rfl ?_
  rintro v h2 aj ⟨w,m,u,rfl,ow,om,ou,hw⟩
  refine Evs ?_
  refine U_t [14,15] rfl ?_
  simp only [go_sem,jq,jj,jy,jv,jk,jx,zm8 c.2.2.1 b,zln c.2.2.1 b,c.2.2.1.some b,b,d,f,jW,Jg,JA,JB,JC]
  refine U_1 16 0 [] rfl rfl ?_
  simp only [go_sem,jq,jj,jy,jv,jk,jx,zm8 c.2.2.1 b,zln c.2.2.1 b,c.2.2.1.some b,b,d,f,jW,Jg,JA,JB,JC]
  refine U_t [17] rfl ?_
  simp only [go_sem,jq,jj,jy,jv,jk,jx,zm8 c.2.2.1 b,zln c.2.2.1 b,c.2.2.1.some b,b,d,f,jW,Jg,JA,JB,JC]
  refine U_d ?_
  refine Wk ?_
  exact ⟨w,m,u,rfl,ow,om,ou,fun e=>by have:=hw e;rw [i] at this;exact this⟩
def zGU:POption:=⟨0,0,0,[]⟩
def zGV (ready arr:Int) (ms:List Int):Int:=ms.foldl (fun acc m=>IntKind.i64.wrap (acc - m)) (IntKind.i64.wrap (arr - ready))
def zGW (x:PHarbour) (a:DCall) (r st:List Int) (start:Int):POption × Bool :=
 (⟨start,zFx x.chart (zGP x a) r st,zGV a.ready (zFx x.chart (zGP x a) r st) (minL x.chart (zGP x a) r r.length),zFB x.chart a.ship (zGP x a) a.src r st⟩,decide (zFx x.chart (zGP x a) r st≤2880))
def zGX (x:PHarbour) (a:DCall) (r:List Int) (start:Int):POption × Bool:=match zGN x.forecast x.chart (zGP x a) a.src r start with
 | none=>(zGU,false)
 | some st=>zGW x a r st start
def zGY (h:Hp) (F:POption × Bool) (v:Value) (h':Hp):Prop:=∃ q:DOption,v=.tuple #[q.v,.bool F.2]∧jK q=F.1∧jD h' q∧Mine h h' q
theorem zGZ {h h':Hp}:∃ q:DOption,q.v=.agg #[.int .i64 0,.int .i64 0,.int .i64 0,.slice none 0 0]∧jK q=zGU∧jD h' q∧Mine h h' q:=⟨⟨0,0,0,⟨none,0,[]⟩⟩,rfl,rfl,⟨i64z,i64z,i64z,znE⟩,(Mine.nil:Mine h h' (⟨none,0,[]⟩:Sl DPassage))⟩
theorem zG0 {a b:Int} {l:List Int}:I64 (zGV a b l):=by
 unfold zGV
 have c:∀ {l:List Int} {z:Int},I64 z→I64 (l.foldl (fun acc m=>IntKind.i64.wrap (acc - m)) z):=fun {l}=>by
  induction l with
  | nil=>exact fun h=>h
  | cons x l d=>exact fun _=>d (i64w _)
 exact c (i64w _)
theorem zG1 {c:PChart} {s:DShip} {r st:List Int}:I64 (zFx c s r st):=by
 have a:I64 (-1):=by unfold I64;omega
 unfold zFx
 split
 ·split
  ·exact i64w _
  ·exact a
 ·exact a
theorem zG2 {a b:Int} {l:List Int} {k:Nat} (c:k < l.length):zGV a b (l.take (k+1))=IntKind.i64.wrap (zGV a b (l.take k) - l[k]):=by
 unfold zGV
 rw [qw c,yp];rfl
theorem zG3 {h h':Hp} {x:PHarbour} {a:DCall} {r st:List Int} {start:Int} {q:Sl DPassage} (b:I64 start) (e:q.l=zFB x.chart a.ship (zGP x a) a.src r st) (ok:q.Ok h') (m:Mine h h' q) :
  jK (DOption.mk start (zFx x.chart (zGP x a) r st) (zGV a.ready (zFx x.chart (zGP x a) r st) (minL x.chart (zGP x a) r r.length)) q)=(zGW x a r st start).1∧jD h' (DOption.mk start (zFx x.chart (zGP x a) r st) (zGV a.ready (zFx x.chart (zGP x a) r st) (minL x.chart (zGP x a) r r.length)) q)∧Mine h h' (DOption.mk start (zFx x.chart (zGP x a) r st) (zGV a.ready (zFx x.chart (zGP x a) r st) (minL x.chart (zGP x a) r r.length)) q):=by
 refine ⟨?_,⟨b,zG1,zG0,ok⟩,m⟩
 rw [zkX,show jK q=q.l from zFv q,e];rfl
theorem zG4 (x:DHarbour) (a:DCall) (w:Sl Bool) (m:Sl Int) (u:Sl (Sl DWindow)) (r:Sl Int) (st:Int) (h:Hp) (hx:jD h x) (M:jD h a) (hw:w.Ok h) (N:m.Ok h) (hu:u.Ok h) (hr:r.Ok h) (s:I64 st) (o:r.l.length≤1048576) (O:zBZ (jK x) a=true) (H:voOk (jK x.forecast) (jK x.chart) (zGP (jK x) a) a.src r.l=true)
  (hl:w.l=zGw (jK x.chart) ((zEi (jK x.chart) a.src r.l).getD []) r.l.length∧m.l=minL (jK x.chart) (zGP (jK x) a) r.l r.l.length∧u.l.map (·.l)=zGx (jK x.forecast) (jK x.chart) (zGP (jK x) a) r.l r.l.length) :
  Ct jV 100 [x.v,a.v,.agg #[w.val,m.val,u.val],r.val,.int .i64 st] h (zGY h (zGX (jK x) a r.l st)):=by
 obtain ⟨ak,al,⟨b,t,am⟩,Q,R,_⟩:=zGQ O
 obtain ⟨X,J,Y⟩:=hl
 have an:w.l.length=r.l.length:=by rw [X];exact rmap_len
 have ao:m.l.length=r.l.length:=by rw [J];exact rmap_len
 have ap:u.l.length=r.l.length:=by have:=congrArg ud Y;rwa [jH,zGx,rmap_len] at this
 have aq:0 < r.l.length:=by
  rw [voOk,jJ,JD] at H;exact H.2
 have Z:zGD w.l m.l (u.l.map (·.l)) st=zGN (jK x.forecast) (jK x.chart) (zGP (jK x) a) a.src r.l st:=by
  rw [zGN,if_pos H,X,J,Y]
 refine zdn (fun A W=>by simp) Tryz.func100 rfl rfl (by simp) fun W0=>?_
 refine Wk ?_
 refine zkr (zGL w m u st _ hw N hu s (by omega) (by omega) (by omega) (by omega)) rfl ?_
 rintro v h1 f ⟨q,rfl,j,y⟩
 rw [Z] at j
 rw [Z,zGX,show (jK x).forecast=jK x.forecast from rfl,show (jK x).chart=jK x.chart from rfl]
 have d:jD h1 x:=jL f hx
 have D:=hr.mono f
 have aa:=N.mono f
 cases ab:zGN (jK x.forecast) (jK x.chart) (zGP (jK x) a) a.src r.l st with
 | none =>
  refine Evs ?_
  refine Wk ?_
  refine zc9 rfl (fun o=>?_) (fun o=>?_)
  case refine_2=>cases o
  refine Wk ?_
  obtain ⟨z,ac,ae⟩:=zGZ (h:=h) (h':=h1)
  rw [← ac]
  exact ⟨z,rfl,ae⟩
 | some sl =>
  rw [ab] at j
  have j:q.l=sl:=j
  refine Evs ?_
  refine Wk ?_
  refine zc9 rfl (fun F=>?_) (fun F=>?_)
  ·cases F
  repeat' first|refine Wa ?_|(simp only [go_sem,jq,jj,jy,jv,jk,jx,zm8 d.2.2.1 b,zln d.2.2.1 b,d.2.2.1.some b,b,Q,R,jW,Jg,JA,JB,JC];try rfl)|refine Wb ?_|fail
  refine zkr (zFJ x.chart a.ship x.fleet.l[a.ship.toNat] a.src r q _ d.2.1 M.1 (d.2.2.1.el b) M.2.1 D y o) rfl ?_
  rintro v h2 g ⟨p,rfl,ep,ag,mp⟩
  have G:jD h2 x:=jL g d
  have ah:=D.mono g
  have ai:=y.mono g
  have n:=aa.mono g
  have aj:=jB f g
  repeat' first|refine Wa ?_|refine zhF (fun _=>zFI x.chart x.fleet.l[a.ship.toNat] r q _ G.2.1 (G.2.2.1.el b) ah ai) ?_|(simp only [go_sem,jq,jj,jy,jv,jk,jx];try rfl)|refine Wb ?_|fail
  have au:=n.max
  refine zng (ι:=Nat) (fun i=>⟨[(10,true,.c (.p 3 0)),(11,true,.c (.v (.bool false))),(16,true,.c (.p 5 0)),(60,true,.c (.v m.val)),(61,true,.c (.v (.int .i64 m.l.length))),(62,true,.c (.v (.int .i64 i)))],[(0,.box 62 [.v (.int .i64 x.forecast.tide.mean),.v x.forecast.tide.parts.val,.v x.forecast.surges.val,.v x.chart.points.val,.v x.chart.segments.val,.v x.fleet.val,.v (.int .i64 x.regime.gap),.v (.bool x.regime.noMeet),.v (.int .i64 x.crew.tugs),.v (.int .i64 x.crew.pilots),.v (.int .i64 x.crew.rest),.v x.crew.moves.val]),(1,.box 79 [.v (.int .i64 a.ship),.v (.int .i64 a.src),.v (.int .i64 a.dst),.v (.int .i64 a.ready),.v (.int .i64 a.due)]),(2,.box 162 [.v w.val,.v m.val,.v u.val]),(3,.box 84 [.v (.int .i64 0),.v (.int .i64 0),.v (.int .i64 0),.v (.slice none 0 0)]),(4,.box 157 [.v (.string x.fleet.l[a.ship.toNat].name),.v (.int .i64 x.fleet.l[a.ship.toNat].length),.v (.int .i64 x.fleet.l[a.ship.toNat].draught),.v (.int .i64 x.fleet.l[a.ship.toNat].line),.v (.int .i64 x.fleet.l[a.ship.toNat].tugs),.v (.bool x.fleet.l[a.ship.toNat].slow)]),(5,.box 84 [.v (.int .i64 st),.v (.int .i64 (zFx (jK x.chart) x.fleet.l[a.ship.toNat] r.l q.l)),.v (.int .i64 (zGV a.ready (zFx (jK x.chart) x.fleet.l[a.ship.toNat] r.l q.l) (m.l.take i))),.v p.val])],h2,6⟩) (fun i=>i≤m.l.length) (fun i=>m.l.length - i) 0 (jC _) [0,1,2,3,4,5] ?_ ?_
  ·refine Evs ?_
   exact Gk
  intro k hk
  refine Wk ?_
  refine zc9 rfl (fun K=>?_) (fun K=>?_)
  ·have e:=zjH K
   repeat' first|refine Wa ?_|(simp only [go_sem,jq,jj,jy,jv,jk,jx,zkR n e,n.some e,e,jW];try rfl)|refine Wb ?_|fail
   refine ⟨k+1,[0,1,2,3,4,5],e,by omega,?_⟩
   refine Evs ?_
   rw [zG2 e]
   exact Gi (zjA e (by omega))
  ·have av:=zjI K
   obtain rfl:k=m.l.length:=by omega
   rw [qG,J]
   refine Wk ?_
   refine zz5 rfl ?_
   refine U_t [0,1,2,3] rfl ?_
   refine Evs ?_
   refine U_1 4 0 [3,2,1] rfl rfl ?_
   refine Evs ?_
   refine ⟨rfl,?_⟩
   refine U_t [5] rfl ?_
   refine Evs ?_
   refine U_d ?_
   refine Wk ?_
   rw [← t,j]
   obtain ⟨k1,k2,k3⟩:=zG3 (h:=h) (x:=jK x) (a:=a) (r:=r.l) (st:=sl) (start:=st) (q:=p) s (by rw [ep,t,j];rfl) ag (mp.back f)
   exact ⟨_,rfl,k1,k2,k3⟩
theorem at0 {s:Sl Int} {h h2:Hp} (H:s.Ok h) (b:h.le h2) (h0:0 < s.l.length:=by assumption):h2.lds (qe (fun x=>x) s.a) 1=some [.int .i64 s.l[0]]:=by
 have:=zkR (H.mono b) h0
 simp only [go_sem,jA] at this
 exact this
theorem zG5 (x:DHarbour) (a:DCall) (r q:Sl Int) (h:Hp) (n:jD h x) (F:jD h a) (D:r.Ok h) (g:q.Ok h) (K:r.l.length≤1048576) (N:zBZ (jK x) a=true) (hR:zEZ (jK x.chart) a.src r.l=true) (b:0 < q.l.length) :
  Ct jV 96 [x.v,a.v,r.val,q.val] h (zGY h (zGW (jK x) a r.l q.l q.l[0])):=by
 obtain ⟨ac,ae,⟨o,G,ag⟩,O,Q,_⟩:=zGQ N
 obtain ⟨hC,ah,pl,ab,R,Z,ai⟩:=zE3 hR
 have H:(jK x.chart).segments=x.chart.segments.l:=zCd x.chart
 have aj:=D.max
 have f:(0:Int) < q.l.length:=by omega
 have e:=zkR g b
 simp only [go_sem,jA] at e
 have aa:(minL (jK x.chart) x.fleet.l[a.ship.toNat] r.l r.l.length).length=r.l.length:=rmap_len
 refine zdn (fun A W=>by simp) Tryz.func96 rfl rfl (by simp) fun W0=>?_
 repeat' first|refine Wa ?_|(simp only [go_sem,jq,jj,jy,jv,jk,jx,zm8 n.2.2.1 o,zln n.2.2.1 o,n.2.2.1.some o,o,O,Q,jW,Jg,JA,JB,JC];try rfl)|refine Wb ?_|fail
 refine zFT (ι:=Hp × Sl DPassage) (fun i=>⟨[(2,true,.c (.v r.val)),(4,true,.c (.p 0 0)),(5,true,.c (.p 1 0)),(8,true,.c (.p 2 0)),(9,true,.c (.v (.bool false))),(10,true,.c (.p 3 0)),(11,true,.c (.p 4 0))],[(0,.box 62 [.v (.int .i64 x.forecast.tide.mean),.v x.forecast.tide.parts.val,.v x.forecast.surges.val,.v x.chart.points.val,.v x.chart.segments.val,.v x.fleet.val,.v (.int .i64 x.regime.gap),.v (.bool x.regime.noMeet),.v (.int .i64 x.crew.tugs),.v (.int .i64 x.crew.pilots),.v (.int .i64 x.crew.rest),.v x.crew.moves.val]),(1,.box 79 [.v (.int .i64 a.ship),.v (.int .i64 a.src),.v (.int .i64 a.dst),.v (.int .i64 a.ready),.v (.int .i64 a.due)]),(2,.box 84 [.v (.int .i64 0),.v (.int .i64 0),.v (.int .i64 0),.v (.slice none 0 0)]),(3,.box 157 [.v (.string x.fleet.l[a.ship.toNat].name),.v (.int .i64 x.fleet.l[a.ship.toNat].length),.v (.int .i64 x.fleet.l[a.ship.toNat].draught),.v (.int .i64 x.fleet.l[a.ship.toNat].line),.v (.int .i64 x.fleet.l[a.ship.toNat].tugs),.v (.bool x.fleet.l[a.ship.toNat].slow)]),(4,.box 84 [.v (.int .i64 q.l[0]),.v (.int .i64 (zFx (jK x.chart) x.fleet.l[a.ship.toNat] r.l q.l)),.v (.int .i64 0),.v i.2.val])],i.1,5⟩) (fun i=>h.le i.1∧i.2.l=zFB (jK x.chart) a.ship x.fleet.l[a.ship.toNat] a.src r.l q.l∧i.2.Ok i.1∧Mine h i.1 i.2) (fun _=>rfl) ?_ ?_
 ·refine zz5 rfl ?_
  refine U_t [0,3,5,6,7,9,11,13,14,16,17,1,4,10,12,15,2] rfl ?_
  simp only [go_sem,jq,jj,jy,jv,jk,jx,e,g.some b,b,f,je,jA,qF,jW,Jg,JA,JB,JC]
  refine U_m 8 [20] ⟨?_,?_,trivial⟩
  ·refine U_b 8 0 [2,15,12,10,1,14,13,11,9] rfl rfl ?_
   simp only [go_sem,jq,jj,jy,jv,jk,jx,e,g.some b,b,f,je,jA,qF,jW,Jg,JA,JB,JC]
   refine zhF (fun _=>zFG x.chart x.fleet.l[a.ship.toNat] r q _ n.2.1 (n.2.2.1.el o) D g) ?_
   simp only [go_sem,jq,jj,jy,jv,jk,jx,e,g.some b,b,f,je,jA,qF,jW,Jg,JA,JB,JC]
   refine U_m 18 [20] ⟨?_,?_,trivial⟩
   ·refine U_b 18 0 [2,1] rfl rfl ?_
    simp only [go_sem,jq,jj,jy,jv,jk,jx,e,g.some b,b,f,je,jA,qF,jW,Jg,JA,JB,JC]
    refine zkr (zFH x.chart a.ship x.fleet.l[a.ship.toNat] a.src r q _ n.2.1 F.1 (n.2.2.1.el o) F.2.1 D g K) rfl ?_
    rintro v h2 d ⟨p,rfl,u,s,w⟩
    simp only [go_sem,jq,jj,jy,jv,jk,jx,e,b,f,je,jA,at0 g d,(g.mono d).some b,qF,Jg,JA,JB]
    refine U_m 19 [20] ⟨?_,?_,trivial⟩
    ·refine U_b 19 0 [] rfl rfl ?_
     simp only [go_sem,jq,jj,jy,jv,jk,jx,e,b,f,je,jA,at0 g d,(g.mono d).some b,qF,Jg,JA,JB]
     refine U_1 20 0 [] rfl rfl ?_
     simp only [go_sem,jq,jj,jy,jv,jk,jx,e,b,f,je,jA,at0 g d,(g.mono d).some b,qF,Jg,JA,JB]
     refine U_1 21 0 [] rfl rfl ?_
     simp only [go_sem,jq,jj,jy,jv,jk,jx,e,b,f,je,jA,at0 g d,(g.mono d).some b,qF,Jg,JA,JB]
     refine U_d ?_
     refine ⟨(h2,p),[0,1,2,3,4],⟨d,u,s,w⟩,?_⟩
     refine Evs ?_
     exact Gk
    ·refine U_b 20 0 [2,1] rfl rfl ?_
     simp only [go_sem,jq,jj,jy,jv,jk,jx,e,b,f,je,jA,at0 g d,(g.mono d).some b,qF,Jg,JA,JB]
     refine U_1 19 0 [] rfl rfl ?_
     simp only [go_sem,jq,jj,jy,jv,jk,jx,e,b,f,je,jA,at0 g d,(g.mono d).some b,qF,Jg,JA,JB]
     refine U_1 21 0 [] rfl rfl ?_
     simp only [go_sem,jq,jj,jy,jv,jk,jx,e,b,f,je,jA,at0 g d,(g.mono d).some b,qF,Jg,JA,JB]
     refine U_d ?_
     refine ⟨(h2,p),[0,1,2,3,4],⟨d,u,s,w⟩,?_⟩
     refine Evs ?_
     exact Gk
   ·refine U_b 20 0 [2,15,12,10,1,14,13,11,9] rfl rfl ?_
    simp only [go_sem,jq,jj,jy,jv,jk,jx,e,g.some b,b,f,je,jA,qF,jW,Jg,JA,JB,JC]
    refine U_1 18 0 [2,1] rfl rfl ?_
    simp only [go_sem,jq,jj,jy,jv,jk,jx,e,g.some b,b,f,je,jA,qF,jW,Jg,JA,JB,JC]
    refine zkr (zFH x.chart a.ship x.fleet.l[a.ship.toNat] a.src r q _ n.2.1 F.1 (n.2.2.1.el o) F.2.1 D g K) rfl ?_
    rintro v h2 d ⟨p,rfl,u,s,w⟩
    simp only [go_sem,jq,jj,jy,jv,jk,jx,e,b,f,je,jA,at0 g d,(g.mono d).some b,qF,Jg,JA,JB]
    refine U_1 19 0 [] rfl rfl ?_
    simp only [go_sem,jq,jj,jy,jv,jk,jx,e,b,f,je,jA,at0 g d,(g.mono d).some b,qF,Jg,JA,JB]
    refine U_1 21 0 [] rfl rfl ?_
    simp only [go_sem,jq,jj,jy,jv,jk,jx,e,b,f,je,jA,at0 g d,(g.mono d).some b,qF,Jg,JA,JB]
    refine U_d ?_
    refine ⟨(h2,p),[0,1,2,3,4],⟨d,u,s,w⟩,?_⟩
    refine Evs ?_
    exact Gk
  ·refine U_b 20 0 [2,15,12,10,4,1,14,13,11,9,5,3] rfl rfl ?_
   simp only [go_sem,jq,jj,jy,jv,jk,jx,e,g.some b,b,f,je,jA,qF,jW,Jg,JA,JB,JC]
   refine U_1 8 0 [2,15,12,10,1,14,13,11,9] rfl rfl ?_
   simp only [go_sem,jq,jj,jy,jv,jk,jx,e,g.some b,b,f,je,jA,qF,jW,Jg,JA,JB,JC]
   refine zhF (fun _=>zFG x.chart x.fleet.l[a.ship.toNat] r q _ n.2.1 (n.2.2.1.el o) D g) ?_
   simp only [go_sem,jq,jj,jy,jv,jk,jx,e,g.some b,b,f,je,jA,qF,jW,Jg,JA,JB,JC]
   refine U_1 18 0 [2,1] rfl rfl ?_
   simp only [go_sem,jq,jj,jy,jv,jk,jx,e,g.some b,b,f,je,jA,qF,jW,Jg,JA,JB,JC]
   refine zkr (zFH x.chart a.ship x.fleet.l[a.ship.toNat] a.src r q _ n.2.1 F.1 (n.2.2.1.el o) F.2.1 D g K) rfl ?_
   rintro v h2 d ⟨p,rfl,u,s,w⟩
   simp only [go_sem,jq,jj,jy,jv,jk,jx,e,b,f,je,jA,at0 g d,(g.mono d).some b,qF,Jg,JA,JB]
   refine U_1 19 0 [] rfl rfl ?_
   simp only [go_sem,jq,jj,jy,jv,jk,jx,e,b,f,je,jA,at0 g d,(g.mono d).some b,qF,Jg,JA,JB]
   refine U_1 21 0 [] rfl rfl ?_
   simp only [go_sem,jq,jj,jy,jv,jk,jx,e,b,f,je,jA,at0 g d,(g.mono d).some b,qF,Jg,JA,JB]
   refine U_d ?_
   refine ⟨(h2,p),[0,1,2,3,4],⟨d,u,s,w⟩,?_⟩
   refine Evs ?_
   exact Gk
 rintro ⟨h2,p⟩ ⟨d,u,s,w⟩
 simp only at d u s w
 have m:jD h2 x:=jL d n
 have J:=D.mono d
 refine Wk ?_
 refine zng (ι:=Nat) (fun i=>⟨[(4,true,.c (.p 0 0)),(8,true,.c (.p 2 0)),(9,true,.c (.v (.bool false))),(10,true,.c (.p 3 0)),(11,true,.c (.p 4 0)),(46,true,.c (.v r.val)),(47,true,.c (.v (.int .i64 r.l.length))),(48,true,.c (.v (.int .i64 i)))],[(0,.box 62 [.v (.int .i64 x.forecast.tide.mean),.v x.forecast.tide.parts.val,.v x.forecast.surges.val,.v x.chart.points.val,.v x.chart.segments.val,.v x.fleet.val,.v (.int .i64 x.regime.gap),.v (.bool x.regime.noMeet),.v (.int .i64 x.crew.tugs),.v (.int .i64 x.crew.pilots),.v (.int .i64 x.crew.rest),.v x.crew.moves.val]),(1,.box 79 [.v (.int .i64 a.ship),.v (.int .i64 a.src),.v (.int .i64 a.dst),.v (.int .i64 a.ready),.v (.int .i64 a.due)]),(2,.box 84 [.v (.int .i64 0),.v (.int .i64 0),.v (.int .i64 0),.v (.slice none 0 0)]),(3,.box 157 [.v (.string x.fleet.l[a.ship.toNat].name),.v (.int .i64 x.fleet.l[a.ship.toNat].length),.v (.int .i64 x.fleet.l[a.ship.toNat].draught),.v (.int .i64 x.fleet.l[a.ship.toNat].line),.v (.int .i64 x.fleet.l[a.ship.toNat].tugs),.v (.bool x.fleet.l[a.ship.toNat].slow)]),(4,.box 84 [.v (.int .i64 q.l[0]),.v (.int .i64 (zFx (jK x.chart) x.fleet.l[a.ship.toNat] r.l q.l)),.v (.int .i64 (zGV a.ready (zFx (jK x.chart) x.fleet.l[a.ship.toNat] r.l q.l) ((minL (jK x.chart) x.fleet.l[a.ship.toNat] r.l r.l.length).take i))),.v p.val])],h2,5⟩) (fun i=>i≤r.l.length) (fun i=>r.l.length - i) 0 (jC _) [0,1,2,3,4] ?_ ?_
 ·refine Evs ?_
  exact Gk
 intro k hk
 refine Wk ?_
 refine zc9 rfl (fun M=>?_) (fun M=>?_)
 ·have t:=zjH M
  have X:=zE4 R (qV _) k t t
  rw [H] at X
  obtain ⟨y,z⟩:=X
  have j:r.l[k].toNat < x.chart.segments.l.length:=by omega
  have Y:(minL (jK x.chart) x.fleet.l[a.ship.toNat] r.l r.l.length)[k]'(by omega)=zCa x.fleet.l[a.ship.toNat] x.chart.segments.l[r.l[k].toNat]:=by
   simp only [minL,qH,ua]
   rw [H,iget t,gget j]
  repeat' first|refine Wa ?_|(simp only [go_sem,jq,jj,jy,jv,jk,jx,zkR J t,J.some t,t,jW];try rfl)|refine Wb ?_|fail
  refine zz5 rfl ?_
  refine U_t [0,2,5,8,1,3,4,6,7] rfl ?_
  simp only [go_sem,jq,jj,jy,jv,jk,jx,zm7 m.2.1.2 j,zlh m.2.1.2 j,m.2.1.2.some j,j,y,z,jW,Jg,JA,JB,JC]
  refine U_1 9 0 [1,0] rfl rfl ?_
  simp only [go_sem,jq,jj,jy,jv,jk,jx,zm7 m.2.1.2 j,zlh m.2.1.2 j,m.2.1.2.some j,j,y,z,jW,Jg,JA,JB,JC]
  refine zhF (fun _=>zCh x.chart.segments.l[r.l[k].toNat] x.fleet.l[a.ship.toNat] _) ?_
  simp only [go_sem,jq,jj,jy,jv,jk,jx,zm7 m.2.1.2 j,zlh m.2.1.2 j,m.2.1.2.some j,j,y,z,jW,Jg,JA,JB,JC]
  refine U_t [10,11] rfl ?_
  simp only [go_sem,jq,jj,jy,jv,jk,jx,zm7 m.2.1.2 j,zlh m.2.1.2 j,m.2.1.2.some j,j,y,z,jW,Jg,JA,JB,JC]
  refine U_1 12 0 [] rfl rfl ?_
  simp only [go_sem,jq,jj,jy,jv,jk,jx,zm7 m.2.1.2 j,zlh m.2.1.2 j,m.2.1.2.some j,j,y,z,jW,Jg,JA,JB,JC]
  refine U_d ?_
  refine Wk ?_
  refine ⟨k+1,[0,1,2,3,4],t,by omega,?_⟩
  refine Evs ?_
  rw [zG2 (by omega),Y]
  exact Gi (zjA t (by omega))
 ·have ak:=zjI M
  obtain rfl:k=r.l.length:=by omega
  rw [qy (by omega)]
  refine Wk ?_
  refine zz5 rfl ?_
  refine U_t [0,1,2,3] rfl ?_
  refine Evs ?_
  refine U_1 4 0 [3,2,1] rfl rfl ?_
  refine Evs ?_
  try refine ⟨rfl,?_⟩
  refine U_t [5] rfl ?_
  refine Evs ?_
  refine U_d ?_
  refine Wk ?_
  rw [← G]
  obtain ⟨k1,k2,k3⟩:=zG3 (h:=h) (x:=jK x) (a:=a) (r:=r.l) (st:=q.l) (start:=q.l[0]) (q:=p) (g.el b) (by rw [u,G];rfl) s w
  exact ⟨_,rfl,k1,k2,k3⟩
theorem zG6 {w:List Bool} {m:List Int} {u:List (List DWindow)} {st:Int}:∀ {k:Nat} {l:List Int},slK w m u st k=some l→l.getD 0 0=st
 | 0,l,h=>by rw [slK] at h;rw [← Option.some.inj h];rfl
 | k+1,l,h=>by
  rw [slK] at h
  cases a:slK w m u st k with
  | none=>rw [a] at h;cases h
  | some p =>
   rw [a,yf] at h
   unfold zGC at h
   dsimp only at h
   split at h
   ·cases h
   ·have b:=zG6 a
    have h2:=zGH a
    rw [← Option.some.inj h,ja,wF (by omega),← ja,b]
theorem zG7 {f:PForecast} {c:PChart} {s:DShip} {a:Int} {r:List Int} {st:Int} {l:List Int} (h:zGN f c s a r st=some l):l.length=r.length∧0 < l.length∧l.getD 0 0=st:=by
 rw [zGN] at h
 split at h
 ·rename_i b
  rw [voOk,jJ,JD] at b
  have e:=b.2
  rw [zGD] at h
  split at h
  ·have d:=zGH h
   have h2:=zG6 h
   rw [zGx,rmap_len] at d
   exact ⟨by omega,by omega,h2⟩
  ·cases h
 ·cases h
theorem zG8 {α:Type} [Enc α] [Foot α] {h h' h2:Hp} {l:List α} (a:h'.le h2) (c:∀ x ∈ l,jD h' x) (H:Mines h h' l):Mines h h2 l :=
 ⟨fun x d=>(Foot.loc (c x d) (H.1 x d) fun b _ o e=>a b o e).2,H.2.1,H.2.2⟩
def zG9 (opt:Int→POption × Bool) (due:Int):Nat→Int→List POption→List POption
 | 0,_,acc=>acc
 | f+1,s,acc=>if s≤due∧acc.length < 8 then zG9 opt due f (IntKind.i64.wrap (s+15)) (if (opt s).2=true then acc ++ [(opt s).1] else acc) else acc
def zHa (x:PHarbour) (a:DCall):List POption:=if zBZ x a=true then (match zGl x.chart a.src a.dst with|none=>[]|some r=>zG9 (zGX x a r) a.due 200 a.ready []) else []
theorem zHb {g:List DSegment} {a:Int} {r r2:List Int}:∀ {k:Nat},(∀ i,i < k→r.getD i 0=r2.getD i 0)→ptsK g a r k=ptsK g a r2 k
 | 0,_=>rfl
 | k+1,h=>by rw [ptsK,ptsK,zHb (fun i b=>h i (by omega)),h k (by omega)]
theorem zHc {g:List DSegment} {a to:Int}:∀ {f:Nat} {pts0 r0:List Int},ptsK g a r0 r0.length=some pts0→∀ r ∈ zF0 g to f pts0 r0,∃ pts,ptsK g a r r.length=some pts∧pts.getLast?.getD 0=to
 | 0,pts0,r0,h0,r,b=>by cases b
 | f+1,pts0,r0,h0,r,b=>by
  unfold zF0 at b
  split at b
  ·rename_i h
   rw [List.mem_singleton.1 b]
   exact ⟨pts0,h0,h⟩
  ·obtain ⟨i,c,b⟩:=List.mem_flatMap.1 b
   have c:=List.mem_range.1 c
   unfold wkAt at b
   split at b
   ·rename_i d
    refine zHc (f:=f) ?_ r b
    have k:ptsK g a (r0 ++ [(i:Int)]) r0.length=some pts0:=by
     rw [zHb (r2:=r0) (fun j l=>by rw [ja,wF l,← ja]),h0]
    rw [jP,jg,ptsK,k,yf]
    have m:(r0 ++ [(i:Int)]).getD r0.length 0=(i:Int):=by simp
    rw [m,zEg,if_pos (by omega),jW]
    have e:¬ (zEf (g.getD i dG) (pts0.getLast?.getD 0) < 0∨zEf (g.getD i dG) (pts0.getLast?.getD 0) ∈ pts0):=by
     rw [not_or]
     have:=d.1
     unfold zFZ at this
     exact ⟨by omega,d.2⟩
    rw [if_neg e];rfl
   ·cases b
theorem zHd {x:DHarbour} {a:DCall} {r:List Int} (f:zBZ (jK x) a=true) (n:zGl (jK x.chart) a.src a.dst=some r):cvOk (jK x) a r=true:=by
 obtain ⟨p,i,⟨q,s,t⟩,u,w,j,k,z,D,l,_⟩:=zGQ f
 have c:r ∈ zGg (jK x.chart) a.src a.dst:=zGm (acc:=none) (fun y g=>by cases g) (fun y g=>g) n
 rw [zGg] at c
 split at c
 ·rename_i F
  obtain ⟨pts,d,h2⟩:=zHc (a:=a.src) (pts0:=[a.src]) (r0:=[]) rfl r c
  have h:=zEM d
  have b:zEi (jK x.chart) a.src r=some pts:=by
   rw [zE1 i,zEX (by rw [zEm];exact ⟨j,k⟩),d]
  have o:zEZ (jK x.chart) a.src r=true:=by rw [zEZ,b];rfl
  have h0:0 < r.length:=by
   rcases we r.length with e|e
   ·exfalso
    rw [e,ptsK] at d
    rw [← Option.some.inj d] at h2
    exact l h2
   ·exact e
  have m:zGO (jK x) a r=true:=by
   rw [zGO,show (jK x).chart=jK x.chart from rfl,b]
   dsimp only
   rw [← zEP h,h2,JG rfl]
  rw [cvOk,m,show (jK x).forecast=jK x.forecast from rfl,show (jK x).chart=jK x.chart from rfl,zGR f,o,JG h0];rfl
 ·cases c
theorem zHe {x:PHarbour} {a:DCall} (h:zBZ x a=false):zHa x a=[]:=by rw [zHa,if_neg (by rw [h];exact qa)]
theorem zHf {opt:Int→POption × Bool} {a:Int}:∀ {f:Nat} {s:Int} {acc:List POption},¬ (s≤a∧acc.length < 8)→zG9 opt a f s acc=acc
 | 0,_,_,_=>rfl
 | f+1,s,acc,h=>by rw [zG9,if_neg h]
theorem zHg (l:List DOption):(l.map jK).length=l.length:=jH ..
set_option maxRecDepth 30000 in
theorem zHh (x:DHarbour) (a:DCall) (h:Hp) (hx:jD h x) (ha:jD h a):Ct jV 91 [x.v,a.v] h fun v h'=>∃ s:Sl DOption,v=s.val∧s.l.map jK=zHa (jK x) a∧s.Ok h'∧Mine h h' s:=by
 refine zdn (fun A W=>by simp) Tryz.func91 rfl rfl (by simp) fun W0=>?_
 repeat' first|refine Wa ?_|refine zhF (fun _=>zB2 x a _ hx ha) ?_|(simp only [go_sem,jq,jj,jy,jv,jk,jx];try rfl)|refine Wb ?_|fail
 refine zc9 rfl (fun b=>?_) (fun b=>?_)
 ·rw [jd] at b
  rw [zHe (x:=jK x) (a:=a) b]
  refine Wk ?_
  exact ⟨⟨none,0,[]⟩,rfl,rfl,znE,Mine.nil⟩
 rw [jf] at b
 have j:zBZ (jK x) a=true:=b
 obtain ⟨_,_,_,_,_,_,_,_,_,_,ai,ax,az,a7⟩:=zGQ j
 refine Wk ?_
 refine zkr (zGt x.chart a.src a.dst _ hx.2.1 ha.2.1) rfl ?_
 rintro v R Q ⟨r,rfl,N,Y⟩
 have Z:jD R x:=jL Q hx
 have aa:jD R a:=jL Q ha
 have ab:r.l.length≤1048576:=by
  rw [N]
  cases O:zGl (jK x.chart) a.src a.dst with
  | none=>exact jC _
  | some y=>have:=zGn O;show y.length≤_;omega
 refine Wk ?_
 refine zkr (zGT x a r _ Z aa Y ab j) rfl ?_
 rintro v h2 J ⟨w,m,u,rfl,ow,om,ou,hl⟩
 cases O:zGl (jK x.chart) a.src a.dst with
 | none =>
  have hF:zHa (jK x) a=[]:=by rw [zHa,if_pos j,show (jK x).chart=jK x.chart from rfl,O]
  rw [hF]
  refine Wk ?_
  refine zc9 rfl (fun b=>?_) (fun b=>?_)
  case refine_2=>simp at b
  refine Wk ?_
  exact ⟨⟨none,0,[]⟩,rfl,rfl,znE,Mine.nil⟩
 | some rl =>
 rw [O] at N
 have N:r.l=rl:=N
 have K:cvOk (jK x) a r.l=true:=by rw [N];exact zHd j O
 have hl:=hl K
 have hv:voOk (jK x.forecast) (jK x.chart) (zGP (jK x) a) a.src r.l=true:=by
  rw [cvOk,jJ] at K;exact K.2
 have D:=jB Q J
 have an:jD h2 x:=jL J Z
 have ao:jD h2 a:=jL J aa
 have aj:=Y.mono J
 rw [K]
 refine Wk ?_
 refine zc9 rfl (fun b=>?_) (fun b=>?_)
 ·simp at b
 refine Wk ?_
 have hF:zHa (jK x) a=zG9 (zGX (jK x) a r.l) a.due 200 a.ready []:=by
  rw [zHa,if_pos j,show (jK x).chart=jK x.chart from rfl,O,N]
 obtain ⟨G,hG⟩:∃ G,zG9 (zGX (jK x) a r.l) a.due 200 a.ready []=G:=⟨_,rfl⟩
 rw [hF,hG]
 refine zng (ι:=Nat × Int × List DOption × Hp) (fun i=>⟨[(2,true,.c (.p 0 0)),(3,true,.c (.p 1 0)),(4,true,.c (.v (.slice none 0 0))),(5,true,.c (.v r.val)),(7,true,.c (.p 2 0)),(9,true,.c (.s 3)),(10,true,.c (.v (.int .i64 i.2.1)))],[(0,.box 62 [.v (.int .i64 x.forecast.tide.mean),.v x.forecast.tide.parts.val,.v x.forecast.surges.val,.v x.chart.points.val,.v x.chart.segments.val,.v x.fleet.val,.v (.int .i64 x.regime.gap),.v (.bool x.regime.noMeet),.v (.int .i64 x.crew.tugs),.v (.int .i64 x.crew.pilots),.v (.int .i64 x.crew.rest),.v x.crew.moves.val]),(1,.box 79 [.v (.int .i64 a.ship),.v (.int .i64 a.src),.v (.int .i64 a.dst),.v (.int .i64 a.ready),.v (.int .i64 a.due)]),(2,.box 162 [.v w.val,.v m.val,.v u.val]),(3,.row 84 4 i.2.2.1.length (i.2.2.1.flatMap qx))],i.2.2.2,4⟩) (fun i=>zG9 (zGX (jK x) a r.l) a.due i.1 i.2.1 (i.2.2.1.map jK)=G∧(0≤i.2.1∧i.2.1≤2895)∧a.due < i.2.1+15 * i.1∧(∀ y ∈ i.2.2.1,jD i.2.2.2 y)∧Mines h i.2.2.2 i.2.2.1∧h2.le i.2.2.2) (fun i=>i.1) (200,a.ready,[],h2) ⟨hG,⟨ai,by simp only;omega⟩,by simp only;omega,fun y k=>(by cases k),Mines.nil,wW _⟩ [0,1,2,3] ?_ ?_
 ·refine Evs ?_
  exact Gk
 rintro ⟨f,s,acc,hk⟩ ⟨M,⟨ak,al⟩,ap,d,n,e⟩
 simp only at M ak al ap d n e
 have aq:jD hk x:=jL e an
 have au:jD hk a:=jL e ao
 have am:I64 s:=by unfold I64;omega
 refine Wk ?_
 refine zc9 rfl (fun hd=>?_) (fun hd=>?_)
 ·have ac:=Bool.and_eq_true_iff.1 hd
  have ae:s≤a.due:=JE ac.1
  have ag:acc.length < 8:=by have:=JE ac.2;omega
  obtain ⟨f,rfl⟩:∃ g,f=g+1:=⟨f - 1,by omega⟩
  have o:IntKind.i64.wrap (s+15)=s+15:=by rw [zjz (by omega)]
  refine Wk ?_
  refine zkr (zG4 x a w m u r s _ aq au (ow.mono e) (om.mono e) (ou.mono e) (aj.mono e) am ab j hv hl) rfl ?_
  rintro v h3 t ⟨z,rfl,ez,av,mz⟩
  have F:=jB e t
  have aw:=jB D F
  cases ah:(zGX (jK x) a r.l s).2 with
  | false =>
   refine Wk ?_
   refine zc9 rfl (fun b=>?_) (fun b=>?_)
   ·cases b
   refine Wk ?_
   refine ⟨(f,IntKind.i64.wrap (s+15),acc,h3),[0,1,2,3],⟨?_,by simp only [o];omega,by simp only [o];omega,fun y k=>jL t (d y k),zG8 t d n,F⟩,by simp only;omega,?_⟩
   ·rw [← M,zG9,if_pos ⟨ae,by rw [zHg];exact ag⟩,ah,if_neg qa]
   refine Evs ?_
   exact Gk
  | true =>
   refine Wk ?_
   refine zc9 rfl (fun b=>?_) (fun b=>?_)
   case refine_2=>cases b
   refine zc4 rfl ?_
   refine Evs ?_
   refine ⟨by simp only [maxLen];omega,by omega,?_⟩
   refine Wk ?_
   refine ⟨(f,IntKind.i64.wrap (s+15),acc ++ [z],h3),[0,1,2,6],⟨?_,by simp only [o];omega,by simp only [o];omega,fun y k=>?_,Mines.snoc n d t (jB D e) mz,F⟩,by simp only;omega,?_⟩
   ·rw [← M,zG9,if_pos ⟨ae,by rw [zHg];exact ag⟩,ah,if_pos rfl,qB,← ez];rfl
   ·rcases List.mem_append.1 k with k|k
    ·exact jL t (d y k)
    ·rw [List.mem_singleton.1 k];exact av
   refine Evs ?_
   simp only [jF,jP]
   exact Gk
 ·have X:¬ (s≤a.due∧(acc.map jK).length < 8):=fun H=>by
   rw [zHg] at H
   have R:decide (s≤a.due)=true:=JG H.1
   have h2:decide (((acc.length:Nat):Int) < 8)=true:=JG (by omega)
   have:(decide (s≤a.due) && decide (((acc.length:Nat):Int) < 8))=false:=hd
   rw [R,h2] at this;cases this
  rw [← M,zHf X]
  refine zc6 ?_
  refine Evs ?_
  refine zl7 3 acc rfl rfl rfl rfl (by decide) d h (jB D e) n fun q h' e2 e3 e4 e5=>?_
  refine Wk ?_
  exact ⟨q,rfl,by rw [e2],e3,e5⟩
set_option maxRecDepth 30000 in
theorem zHi (x:DHarbour) (a:DCall) (h:Hp) (hx:jD h x) (ha:jD h a):Ct jV 90 [x.v,a.v] h fun v h'=>∃ s:Sl DOption,v=s.val∧s.l.map jK=zHa (jK x) a∧s.Ok h'∧Mine h h' s:=by
 refine zdn (fun A W=>by simp) Tryz.func90 rfl rfl (by simp) fun W0=>?_
 repeat' first|refine Wa ?_|refine zhF (fun _=>zB3 x a _ hx ha) ?_|(simp only [go_sem,jq,jj,jy,jv,jk,jx];try rfl)|refine Wb ?_|fail
 refine zc9 rfl (fun b=>?_) (fun b=>?_)
 ·rw [jd] at b
  rw [zHe (x:=jK x) (a:=a) b]
  refine Wk ?_
  exact ⟨⟨none,0,[]⟩,rfl,rfl,znE,Mine.nil⟩
 rw [jf] at b
 have o:zBZ (jK x) a=true:=b
 obtain ⟨_,_,_,_,_,_,_,_,_,_,av,b8,b9,ca⟩:=zGQ o
 refine Wk ?_
 refine zkr (zGs x.chart a.src a.dst _ hx.2.1 ha.2.1) rfl ?_
 rintro v h1 Y ⟨r,rfl,Q,Z⟩
 have t:jD h1 x:=jL Y hx
 have al:jD h1 a:=jL Y ha
 have aa:r.l.length≤1048576:=by
  rw [Q]
  cases R:zGl (jK x.chart) a.src a.dst with
  | none=>exact jC _
  | some y=>have:=zGn R;show y.length≤_;omega
 cases R:zGl (jK x.chart) a.src a.dst with
 | none =>
  have hF:zHa (jK x) a=[]:=by rw [zHa,if_pos o,show (jK x).chart=jK x.chart from rfl,R]
  rw [hF]
  refine Wk ?_
  refine zc9 rfl (fun b=>?_) (fun b=>?_)
  case refine_2=>cases b
  refine Wk ?_
  exact ⟨⟨none,0,[]⟩,rfl,rfl,znE,Mine.nil⟩
 | some rl =>
 rw [R] at Q
 have Q:r.l=rl:=Q
 have am:cvOk (jK x) a r.l=true:=by rw [Q];exact zHd o R
 have hv:voOk (jK x.forecast) (jK x.chart) (zGP (jK x) a) a.src r.l=true:=by
  rw [cvOk,jJ] at am;exact am.2
 have hR:zEZ (jK x.chart) a.src r.l=true:=by
  rw [zGR o,jJ] at hv;exact hv.1
 obtain ⟨hC,cb,pl,ab,bd,aj,bf⟩:=zE3 hR
 obtain ⟨cd,ce,⟨F,bg,cf⟩,bh,bi,_⟩:=zGQ o
 refine Wk ?_
 refine zc9 rfl (fun b=>?_) (fun b=>?_)
 ·cases b
 repeat' first|refine Wa ?_|(simp only [go_sem,jq,jj,jy,jv,jk,jx,zm8 t.2.2.1 F,zln t.2.2.1 F,t.2.2.1.some F,F,bh,bi,jW,Jg,JA,JB,JC];try rfl)|refine Wb ?_|fail
 refine zkr (zGS x.forecast x.chart x.fleet.l[a.ship.toNat] r _ t.1 t.2.1 (t.2.2.1.el F) Z aa) rfl ?_
 rintro v h3 j ⟨u,rfl,eu,bj⟩
 have bk:jD h3 x:=jL j t
 refine Wk ?_
 refine zkr (zE7 x.chart a.src r _ bk.2.1 al.2.1 (Z.mono j) aa) rfl ?_
 rintro v h2 an ⟨p,rfl,X,pok⟩
 rw [ab] at X
 have X:p.l=pl:=X
 have O:=jB j an
 have J:=jB Y O
 have bl:jD h2 x:=jL O t
 have bm:jD h2 a:=jL O al
 have ac:=Z.mono O
 have aw:=bj.mono an
 have ao:u.l.length=r.l.length:=by have:=congrArg ud eu;rwa [jH,zGx,rmap_len] at this
 have cg:0 < r.l.length:=by
  rw [zGR o,jJ,JD] at hv;exact hv.2
 refine Wk ?_
 have hF:zHa (jK x) a=zG9 (zGX (jK x) a r.l) a.due 200 a.ready []:=by
  rw [zHa,if_pos o,show (jK x).chart=jK x.chart from rfl,R,Q]
 obtain ⟨G,hG⟩:∃ G,zG9 (zGX (jK x) a r.l) a.due 200 a.ready []=G:=⟨_,rfl⟩
 rw [hF,hG]
 refine zng (ι:=Nat × Int × List DOption × Hp) (fun i=>⟨[(2,true,.c (.p 0 0)),(3,true,.c (.p 1 0)),(4,true,.c (.v (.slice none 0 0))),(5,true,.c (.v r.val)),(7,true,.c (.p 2 0)),(8,true,.c (.v u.val)),(9,true,.c (.v p.val)),(10,true,.c (.s 3)),(11,true,.c (.v (.int .i64 i.2.1)))],[(0,.box 62 [.v (.int .i64 x.forecast.tide.mean),.v x.forecast.tide.parts.val,.v x.forecast.surges.val,.v x.chart.points.val,.v x.chart.segments.val,.v x.fleet.val,.v (.int .i64 x.regime.gap),.v (.bool x.regime.noMeet),.v (.int .i64 x.crew.tugs),.v (.int .i64 x.crew.pilots),.v (.int .i64 x.crew.rest),.v x.crew.moves.val]),(1,.box 79 [.v (.int .i64 a.ship),.v (.int .i64 a.src),.v (.int .i64 a.dst),.v (.int .i64 a.ready),.v (.int .i64 a.due)]),(2,.box 157 [.v (.string x.fleet.l[a.ship.toNat].name),.v (.int .i64 x.fleet.l[a.ship.toNat].length),.v (.int .i64 x.fleet.l[a.ship.toNat].draught),.v (.int .i64 x.fleet.l[a.ship.toNat].line),.v (.int .i64 x.fleet.l[a.ship.toNat].tugs),.v (.bool x.fleet.l[a.ship.toNat].slow)]),(3,.row 84 4 i.2.2.1.length (i.2.2.1.flatMap qx))],i.2.2.2,4⟩) (fun i=>zG9 (zGX (jK x) a r.l) a.due i.1 i.2.1 (i.2.2.1.map jK)=G∧(0≤i.2.1∧i.2.1≤2895)∧a.due < i.2.1+15 * i.1∧(∀ y ∈ i.2.2.1,jD i.2.2.2 y)∧Mines h i.2.2.2 i.2.2.1∧h2.le i.2.2.2) (fun i=>i.1) (200,a.ready,[],h2) ⟨hG,⟨av,by simp only;omega⟩,by simp only;omega,fun y w=>(by cases w),Mines.nil,wW _⟩ [0,1,2,3] ?_ ?_
 ·refine Evs ?_
  exact Gk
 rintro ⟨f,s,acc,hk⟩ ⟨K,⟨ax,az⟩,bn,d,D,e⟩
 simp only at K ax az bn d D e
 have ae:jD hk x:=jL e bl
 have bp:jD hk a:=jL e bm
 have a7:I64 s:=by unfold I64;omega
 refine Wk ?_
 refine zc9 rfl (fun hd=>?_) (fun hd=>?_)
 ·have ap:=Bool.and_eq_true_iff.1 hd
  have ag:s≤a.due:=JE ap.1
  have ah:acc.length < 8:=by have:=JE ap.2;omega
  obtain ⟨f,rfl⟩:∃ g,f=g+1:=⟨f - 1,by omega⟩
  have m:IntKind.i64.wrap (s+15)=s+15:=by rw [zjz (by omega)]
  refine Wk ?_
  refine zkr (zGM x.chart x.fleet.l[a.ship.toNat] p r u s _ ae.2.1 (ae.2.2.1.el F) (pok.mono e) (ac.mono e) (aw.mono e) a7 ao.symm (by rw [X,ao];exact aj) (by omega) (by omega) (fun i hi=>by rw [← zCd];exact zE4 bd (qV _) i hi hi) (fun i hi=>by rw [← zEm];exact bf _ (by rw [← X];exact qd hi))) rfl ?_
  rintro v h5 k ⟨q,rfl,M,bq⟩
  have br:zGD (zGw (jK x.chart) p.l r.l.length) (minL (jK x.chart) x.fleet.l[a.ship.toNat] r.l r.l.length) (u.l.map (·.l)) s=zGN (jK x.forecast) (jK x.chart) (zGP (jK x) a) a.src r.l s:=by
   rw [zGN,if_pos hv,ab,eu,X,bg];rfl
  rw [br] at M ⊢
  have n:zGX (jK x) a r.l s=match zGN (jK x.forecast) (jK x.chart) (zGP (jK x) a) a.src r.l s with|none=>(zGU,false)|some q=>zGW (jK x) a r.l q s:=rfl
  cases ai:zGN (jK x.forecast) (jK x.chart) (zGP (jK x) a) a.src r.l s with
  | none =>
   rw [ai] at n
   refine Wk ?_
   refine zc9 rfl (fun b=>?_) (fun b=>?_)
   case refine_2=>cases b
   refine Wk ?_
   refine ⟨(f,IntKind.i64.wrap (s+15),acc,h5),[0,1,2,3],⟨?_,by simp only [m];omega,by simp only [m];omega,fun y w=>jL k (d y w),zG8 k d D,jB e k⟩,by simp only;omega,?_⟩
   ·rw [← K,zG9,if_pos ⟨ag,by rw [zHg];exact ah⟩,n,if_neg qa]
   have bz:=jB J (jB e k)
   refine Evs ?_
   exact Gk
  | some sl =>
  obtain ⟨ci,bt,bu⟩:=zG7 ai
  rw [ai] at n M
  have M:q.l=sl:=M
  have n:zGX (jK x) a r.l s=zGW (jK x) a r.l sl s:=n
  have aq:0 < q.l.length:=by rw [M];exact bt
  have a8:q.l[0]=s:=by rw [← iget aq,M];exact bu
  refine Wk ?_
  refine zc9 rfl (fun b=>?_) (fun b=>?_)
  ·cases b
  refine Wk ?_
  refine zkr (zG5 x a r q _ (jL k ae) (jL k bp) ((ac.mono e).mono k) bq aa o hR aq) rfl ?_
  rintro v h3 bv ⟨z,rfl,ez,bw,mz⟩
  have j:=jB k bv
  have mz:=mz.back k
  rw [a8,M,← n] at ez ⊢
  have N:=jB e j
  have b7:=jB J N
  cases au:(zGX (jK x) a r.l s).2 with
  | false =>
   refine Wk ?_
   refine zc9 rfl (fun b=>?_) (fun b=>?_)
   ·cases b
   refine Wk ?_
   refine ⟨(f,IntKind.i64.wrap (s+15),acc,h3),[0,1,2,3],⟨?_,by simp only [m];omega,by simp only [m];omega,fun y w=>jL j (d y w),zG8 j d D,N⟩,by simp only;omega,?_⟩
   ·rw [← K,zG9,if_pos ⟨ag,by rw [zHg];exact ah⟩,au,if_neg qa]
   refine Evs ?_
   exact Gk
  | true =>
   refine Wk ?_
   refine zc9 rfl (fun b=>?_) (fun b=>?_)
   case refine_2=>cases b
   refine zc4 rfl ?_
   refine Evs ?_
   refine ⟨by simp only [maxLen];omega,by omega,?_⟩
   refine Wk ?_
   refine ⟨(f,IntKind.i64.wrap (s+15),acc ++ [z],h3),[0,1,2,6],⟨?_,by simp only [m];omega,by simp only [m];omega,fun y w=>?_,Mines.snoc D d j (jB J e) mz,N⟩,by simp only;omega,?_⟩
   ·rw [← K,zG9,if_pos ⟨ag,by rw [zHg];exact ah⟩,au,if_pos rfl,qB,← ez];rfl
   ·rcases List.mem_append.1 w with w|w
    ·exact jL j (d y w)
    ·rw [List.mem_singleton.1 w];exact bw
   refine Evs ?_
   simp only [jF,jP]
   exact Gk
 ·have ak:¬ (s≤a.due∧(acc.map jK).length < 8):=fun H=>by
   rw [zHg] at H
   have h1:decide (s≤a.due)=true:=JG H.1
   have h2:decide (((acc.length:Nat):Int) < 8)=true:=JG (by omega)
   have:(decide (s≤a.due) && decide (((acc.length:Nat):Int) < 8))=false:=hd
   rw [h1,h2] at this;cases this
  rw [← K,zHf ak]
  refine zc6 ?_
  refine Evs ?_
  refine zl7 3 acc rfl rfl rfl rfl (by decide) d h (jB J e) D fun q h' e2 e3 e4 e5=>?_
  refine Wk ?_
  exact ⟨q,rfl,by rw [e2],e3,e5⟩
theorem zHj (l:List POption):(l=[]∧zAL l=-1)∨(0≤zAL l∧zAL l < l.length):=by
 unfold zAL
 rcases zAK (l.map (·.cost)) l.length with ⟨h,e⟩|h
 ·exact .inl ⟨List.length_eq_zero_iff.1 h,e⟩
 ·exact .inr h
theorem zHk (x:DHarbour) (a:DCall) (h:Hp) (b:jD h x) (c:jD h a):Ct jV 91 [x.v,a.v] h fun v h'=>∃ s:Sl DOption,v=s.val∧jK s=zHa (jK x) (jK a)∧s.Ok h'∧Mine h h' s:=zHh x a h b c
theorem zHl (x:DHarbour) (a:DCall) (h:Hp) (b:jD h x) (c:jD h a):Ct jV 90 [x.v,a.v] h fun v h'=>∃ s:Sl DOption,v=s.val∧jK s=zHa (jK x) (jK a)∧s.Ok h'∧Mine h h' s:=zHi x a h b c
theorem zHm {c:PChart} {ship:Int} {s:DShip} {a:Int} {r st:List Int}:(zFB c ship s a r st).length≤8:=by
 rw [zFB]
 split
 ·rename_i h
  have b:=h.1
  rw [zFA,jJ,jJ] at b
  obtain ⟨d,i,l,j,e,f,g⟩:=zE3 b.1.1
  have:=zF4 d (zEN e) g
  rw [zFE];omega
 ·exact jC _
theorem zHn (l:List DPassage):Sz.sz l=l.length:=by
 rw [znL]
 have:(l.map Sz.sz).sum=0:=by induction l with|nil=>rfl|cons x l ih=>rw [wx,List.sum_cons,ih];rfl
 omega
theorem zHo {x:PHarbour} {a:DCall} {r:List Int} {st:Int}:Sz.sz (zGX x a r st).1≤8:=by
 show Sz.sz (zGX x a r st).1.pas≤8
 rw [zHn,zGX]
 split
 ·exact jC _
 ·exact zHm
theorem zHp {opt:Int→POption × Bool} {b:Int} (c:∀ s,Sz.sz (opt s).1≤8):∀ {f:Nat} {s:Int} {acc:List POption},(acc.length≤8∧∀ y ∈ acc,Sz.sz y≤8)→(zG9 opt b f s acc).length≤8∧∀ y ∈ zG9 opt b f s acc,Sz.sz y≤8
 | 0,_,_,h=>h
 | f+1,s,acc,h=>by
  unfold zG9
  split
  ·rename_i d
   refine zHp c ?_
   split
   ·refine ⟨by rw [jP,jg];omega,fun y a=>?_⟩
    rcases List.mem_append.1 a with a|a
    ·exact h.2 y a
    ·rw [List.mem_singleton.1 a];exact c s
   ·exact h
  ·exact h
theorem zHq {x:PHarbour} {a:DCall}:(zHa x a).length≤8∧∀ y ∈ zHa x a,Sz.sz y≤8:=by
 rw [zHa]
 split
 ·split
  ·exact ⟨jC _,fun y b=>by cases b⟩
  ·exact zHp (fun s=>zHo) ⟨jC _,fun y b=>by cases b⟩
 ·exact ⟨jC _,fun y b=>by cases b⟩
theorem zHr {β:Type} [Sz β] {l:List β} {k:Nat} (h:∀ y ∈ l,Sz.sz y≤k):Sz.sz l≤l.length+l.length * k:=by
 rw [znL]
 have:(l.map Sz.sz).sum≤l.length * k:=by
  induction l with
  | nil=>simp
  | cons x l a =>
   rw [wx,List.sum_cons,qv,yP,JQ]
   have c:=h x (qC ..)
   have h2:=a fun y b=>h y (qg _ b)
   omega
 omega
def clB (c:PChart) (r:DRegime) (p:DPassage) (b:List DPassage):Bool:=b.any fun q=>decide (zCp c r p q ≠ 0)
theorem zHs (c:PChart) (r:DRegime) (a b:List DPassage):zCq c r a b=a.any fun p=>clB c r p b:=rfl
theorem zHt {α:Type} {f:α→Bool} {l:List α} {k:Nat} (a:l.length≤k) (h:(l.take k).any f=false):l.any f=false:=by rwa [qy a] at h
theorem zHu (x:DChart) (r:DRegime) (a b:Sl DPassage) (h:Hp) (w:jD h x) (y:zBC r=true) (f:jD h a) (g:jD h b):Ct jV 92 [x.v,r.v,a.val,b.val] h fun v h'=>v=.bool (zCq (jK x) r a.l b.l)∧h'=h:=by
 have f:a.Ok h:=f
 have g:b.Ok h:=g
 have z:=f.max
 have D:=g.max
 rw [zHs]
 refine zdn (fun A W=>by simp) Tryz.func92 rfl rfl (by simp) fun W0=>?_
 refine Wk ?_
 refine zde (ι:=Nat) (fun k=>⟨[(3,true,.c (.v b.val)),(4,true,.c (.p 0 0)),(5,true,.c (.p 1 0)),(8,true,.c (.v (.bool false))),(13,true,.c (.v a.val)),(14,true,.c (.v (.int .i64 a.l.length))),(15,true,.c (.v (.int .i64 k)))],[(0,.box 57 [.v x.points.val,.v x.segments.val]),(1,.box 59 [.v (.int .i64 r.gap),.v (.bool r.noMeet)])],h,2⟩) (fun k=>k≤a.l.length∧(a.l.take k).any (fun p=>clB (jK x) r p b.l)=false) (fun k=>a.l.length - k) 0 ⟨jC _,by simp⟩ ?_ ?_
 ·refine Evs ?_
  exact Gk
 intro k s
 refine Wk ?_
 refine zc9 rfl (fun n=>?_) (fun n=>?_)
 ·have e:=zjH n
  repeat' first|refine Wa ?_|(simp only [go_sem,jq,jj,jy,jv,jk,jx,zkV f e,f.some e,e,jW];try rfl)|refine Wb ?_|fail
  refine zde (ι:=Nat) (fun j=>⟨[(3,true,.c (.v b.val)),(4,true,.c (.p 0 0)),(5,true,.c (.p 1 0)),(8,true,.c (.v (.bool false))),(10,true,.c (.p 2 0)),(13,true,.c (.v a.val)),(14,true,.c (.v (.int .i64 a.l.length))),(15,true,.c (.v (.int .i64 k))),(19,true,.c (.v b.val)),(20,true,.c (.v (.int .i64 b.l.length))),(21,true,.c (.v (.int .i64 j)))],[(0,.box 57 [.v x.points.val,.v x.segments.val]),(1,.box 59 [.v (.int .i64 r.gap),.v (.bool r.noMeet)]),(2,.box 222 [.v (.int .i64 a.l[k].ship),.v (.int .i64 a.l[k].seg),.v (.bool a.l[k].toward),.v (.int .i64 a.l[k].start),.v (.int .i64 a.l[k].fin)])],h,3⟩) (fun j=>j≤b.l.length∧(b.l.take j).any (fun q=>decide (zCp (jK x) r a.l[k] q ≠ 0))=false) (fun j=>b.l.length - j) 0 ⟨jC _,by simp⟩ ?_ ?_
  ·refine Evs ?_
   exact Gk
  intro j t
  refine Wk ?_
  refine zc9 rfl (fun i=>?_) (fun i=>?_)
  ·have d:=zjH i
   repeat' first|refine Wa ?_|refine zhF (fun _=>zCC x r a.l[k] b.l[j] _ w y (f.el e) (g.el d)) ?_|(simp only [go_sem,jq,jj,jy,jv,jk,jx,zkV g d,g.some d,d,jW];try rfl)|refine Wb ?_|fail
   refine zc9 rfl (fun o=>?_) (fun o=>?_)
   ·refine Wk ?_
    rw [zCs e]
    rw [clB]
    exact zCs d (JG (zjD o))
   ·have u:zCp (jK x) r a.l[k] b.l[j]=0:=by simpa using o
    refine Wk ?_
    refine ⟨j+1,⟨d,?_⟩,by omega,zjB (zjA d (by omega))⟩
    rw [zCr d,t.2,wa,decide_eq_false (fun H=>H u)]
  ·have m:=zjI i
   refine Wk ?_
   refine ⟨k+1,⟨e,?_⟩,by omega,zjB (zjA e (by omega))⟩
   rw [zCr e,s.2,wa,clB]
   exact zHt m t.2
 ·have m:=zjI n
  refine Wk ?_
  rw [zHt m s.2]
theorem zHv (x:DChart) (r:DRegime) (a b:Sl DPassage) (h:Hp) (w:jD h x) (y:zBC r=true) (z:zBp (jK x)=true) (f:jD h a) (g:jD h b):Ct jV 163 [x.v,r.v,a.val,b.val] h fun v h'=>v=.bool (zCq (jK x) r a.l b.l)∧h'=h:=by
 have f:a.Ok h:=f
 have g:b.Ok h:=g
 have D:=f.max
 have F:=g.max
 rw [zHs]
 refine zdn (fun A W=>by simp) Tryz.func163 rfl rfl (by simp) fun W0=>?_
 refine Wk ?_
 refine zde (ι:=Nat) (fun k=>⟨[(3,true,.c (.v b.val)),(4,true,.c (.p 0 0)),(5,true,.c (.p 1 0)),(8,true,.c (.v (.bool false))),(13,true,.c (.v a.val)),(14,true,.c (.v (.int .i64 a.l.length))),(15,true,.c (.v (.int .i64 k)))],[(0,.box 57 [.v x.points.val,.v x.segments.val]),(1,.box 59 [.v (.int .i64 r.gap),.v (.bool r.noMeet)])],h,2⟩) (fun k=>k≤a.l.length∧(a.l.take k).any (fun p=>clB (jK x) r p b.l)=false) (fun k=>a.l.length - k) 0 ⟨jC _,by simp⟩ ?_ ?_
 ·refine Evs ?_
  exact Gk
 intro k s
 refine Wk ?_
 refine zc9 rfl (fun n=>?_) (fun n=>?_)
 ·have e:=zjH n
  repeat' first|refine Wa ?_|(simp only [go_sem,jq,jj,jy,jv,jk,jx,zkV f e,f.some e,e,jW];try rfl)|refine Wb ?_|fail
  refine zde (ι:=Nat) (fun j=>⟨[(3,true,.c (.v b.val)),(4,true,.c (.p 0 0)),(5,true,.c (.p 1 0)),(8,true,.c (.v (.bool false))),(10,true,.c (.p 2 0)),(13,true,.c (.v a.val)),(14,true,.c (.v (.int .i64 a.l.length))),(15,true,.c (.v (.int .i64 k))),(19,true,.c (.v b.val)),(20,true,.c (.v (.int .i64 b.l.length))),(21,true,.c (.v (.int .i64 j)))],[(0,.box 57 [.v x.points.val,.v x.segments.val]),(1,.box 59 [.v (.int .i64 r.gap),.v (.bool r.noMeet)]),(2,.box 222 [.v (.int .i64 a.l[k].ship),.v (.int .i64 a.l[k].seg),.v (.bool a.l[k].toward),.v (.int .i64 a.l[k].start),.v (.int .i64 a.l[k].fin)])],h,3⟩) (fun j=>j≤b.l.length∧(b.l.take j).any (fun q=>decide (zCp (jK x) r a.l[k] q ≠ 0))=false) (fun j=>b.l.length - j) 0 ⟨jC _,by simp⟩ ?_ ?_
  ·refine Evs ?_
   exact Gk
  intro j t
  refine Wk ?_
  refine zc9 rfl (fun i=>?_) (fun i=>?_)
  ·have d:=zjH i
   repeat' first|refine Wa ?_|refine zhF (fun _=>zCD x r a.l[k] b.l[j] _ w y z (f.el e) (g.el d)) ?_|(simp only [go_sem,jq,jj,jy,jv,jk,jx,zkV g d,g.some d,d,jW];try rfl)|refine Wb ?_|fail
   refine zc9 rfl (fun o=>?_) (fun o=>?_)
   ·refine Wk ?_
    rw [zCs e]
    rw [clB]
    exact zCs d (JG (zjD o))
   ·have u:zCp (jK x) r a.l[k] b.l[j]=0:=by simpa using o
    refine Wk ?_
    refine ⟨j+1,⟨d,?_⟩,by omega,zjB (zjA d (by omega))⟩
    rw [zCr d,t.2,wa,decide_eq_false (fun H=>H u)]
  ·have m:=zjI i
   refine Wk ?_
   refine ⟨k+1,⟨e,?_⟩,by omega,zjB (zjA e (by omega))⟩
   rw [zCr e,s.2,wa,clB]
   exact zHt m t.2
 ·have m:=zjI n
  refine Wk ?_
  rw [zHt m s.2]
theorem zHw {l:List DOption}:(l.map (jK (α:=DOption))).length=l.length:=jH ..
theorem zHx {s:DShip} {g:DSegment} (h:1≤g.minutes∧g.minutes≤240):1≤zCa s g∧zCa s g≤480:=by
 unfold zCa
 split
 ·rw [zjz (by omega)];omega
 ·omega
theorem zHy {c:PChart} (h:zBp c=true) {i:Nat} (a:i < c.segments.length):1≤(c.segments.getD i dG).minutes∧(c.segments.getD i dG).minutes≤240:=by
 simp only [zBp,jJ,JD] at h
 have:=h.2 i a
 simp only [zBo,zBm,jJ,JD] at this
 exact ⟨this.1.2.2.2.2.2.2.2.1,this.1.2.2.2.2.2.2.2.2⟩
theorem zHz {l:List DWindow} {m:Int} (a:¬ zC6 l m < 0):m≤zC6 l m∧zC6 l m≤2880:=by
 unfold zC6 at a ⊢
 split at a
 ·rename_i b
  rw [if_pos b]
  split at a
  ·rename_i w c
   have d:=List.find?_some c
   have d:m≤w.dst:=JE d
   obtain ⟨i,f,e⟩:=qL (List.mem_of_find?_eq_some c)
   have h2:=JE b i f
   rw [zC3,JD,ja,qX f,jc,e] at h2
   omega
  ·exact absurd (show (-1:Int) < 0 by decide) a
 ·exact absurd (show (-1:Int) < 0 by decide) a
def zHA (m:List Int):Nat→Int
 | 0=>0
 | k+1=>zHA m k+m.getD k 0
theorem zHB {m:List Int} (a:∀ i,i < m.length→1≤m.getD i 0∧m.getD i 0≤480):∀ {k:Nat},k≤m.length→0≤zHA m k∧zHA m k≤480 * k
 | 0,_=>⟨qF _,by simp [zHA]⟩
 | k+1,b=>by
  have c:=zHB a (k:=k) (by omega)
  have h2:=a k (by omega)
  rw [zHA];omega
theorem zHC {w:List Bool} {m:List Int} {u:List (List DWindow)} {st:Int} (b:0≤st∧st≤2880) (f:∀ i,i < m.length→1≤m.getD i 0∧m.getD i 0≤480):∀ {k:Nat} {l:List Int},k≤m.length→slK w m u st k=some l→l.length=k+1∧(∀ i,i≤k→0≤l.getD i 0∧l.getD i 0≤2880)∧st+zHA m k≤l.getD k 0
 | 0,l,_,h=>by
  rw [slK] at h
  rw [← Option.some.inj h]
  refine ⟨rfl,fun i g=>?_,?_⟩
  ·rw [Nat.le_zero.1 g];exact b
  ·rw [zHA,Int.add_zero];exact qF _
 | k+1,l,s,h=>by
  rw [slK] at h
  cases c:slK w m u st k with
  | none=>rw [c] at h;cases h
  | some p =>
   rw [c,yf] at h
   obtain ⟨q,h2,t⟩:=zHC b f (k:=k) (by omega) c
   have x:=f k (by omega)
   have y:=h2 k (qV _)
   unfold zGC at h
   dsimp only at h
   split at h
   ·cases h
   ·rename_i j
    rw [not_or] at j
    have n:=zHz j.1
    have r:IntKind.i64.wrap (p.getD k 0+m.getD k 0)=p.getD k 0+m.getD k 0:=zjz (by omega)
    rw [r] at n h
    have e:=Option.some.inj h
    generalize zC6 (u.getD (k+1) []) (p.getD k 0+m.getD k 0)=a at n e
    rw [← e]
    refine ⟨by rw [jP,q];rfl,fun i g=>?_,?_⟩
    ·rcases wv i (k+1) with o|o
     ·rw [ja,wF (by omega),← ja]
      exact h2 i (by omega)
     ·rw [show i=p.length by omega]
      have d:(p ++ [a]).getD p.length 0=a:=by simp only [ja,List.getElem?_concat_length,jc]
      rw [d]
      omega
    ·rw [show k+1=p.length by omega]
     have d:(p ++ [a]).getD p.length 0=a:=by simp only [ja,List.getElem?_concat_length,jc]
     rw [d,show p.length=k+1 by omega,zHA]
     omega
theorem zHD {m:List Int} (a:∀ i,i < m.length→1≤m.getD i 0∧m.getD i 0≤480) (b:m.length≤100) {z:Int} (c:-1000000≤z∧z≤1000000):∀ {k:Nat},k≤m.length→(m.take k).foldl (fun acc y=>IntKind.i64.wrap (acc - y)) z=z - zHA m k
 | 0,_=>by simp [zHA]
 | k+1,e=>by
  rw [qw (by omega),yp,wH,uY,zHD a b c (k:=k) (by omega),zHA]
  have f:=zHB a (k:=k) (by omega)
  have h2:=a k (by omega)
  have d:m.getD k 0=m[k]'(by omega):=by rw [ja,qX (by omega)];rfl
  rw [← d,zjz (by omega)]
  omega
theorem zHE {P:POption→Prop} {opt:Int→POption × Bool} {d a:Int} (g:0≤d) (e:a≤2880) (h:∀ s,d≤s→s≤a→(opt s).2=true→P (opt s).1):∀ {f:Nat} {s:Int} {acc:List POption},d≤s→(∀ y ∈ acc,P y)→∀ y ∈ zG9 opt a f s acc,P y
 | 0,s,acc,_,b=>b
 | f+1,s,acc,i,b=>by
  unfold zG9
  split
  ·rename_i j
   refine zHE g e h (by rw [zjz (by omega)];omega) ?_
   split
   ·rename_i h2
    intro y c
    rcases List.mem_append.1 c with c|c
    ·exact b y c
    ·rw [List.mem_singleton.1 c];exact h s i j.1 h2
   ·exact b
  ·exact b
theorem zHF {c:PChart} {s:DShip} {r:List Int} {n i:Nat} (a:i < n):(minL c s r n).getD i 0=zCa s (c.segments.getD (r.getD i 0).toNat dG):=by
 rw [minL,ja,yC,List.getElem?_range a];rfl
theorem zHG {c:PChart} {r:List Int} (a:zBp c=true) (b:∀ i (e:i < r.length),0≤r[i]∧r[i] < c.segments.length) (d:r.length≤8):∀ {k:Nat},k≤r.length→0≤(r.take k).foldl (zE9 c.segments) 0∧(r.take k).foldl (zE9 c.segments) 0≤240 * k
 | 0,_=>by simp
 | k+1,f=>by
  have g:=zHG a b d (k:=k) (by omega)
  have h2:=b k (by omega)
  have h:=zHy a (i:=(r[k]'(by omega)).toNat) (by omega)
  rw [qw (by omega),yp,wH,uY,zE9,zjz (by omega)]
  omega
theorem zHH {x:DHarbour} {a:DCall} {r:List Int} (f:zBZ (jK x) a=true) (m:cvOk (jK x) a r=true) {st:Int} (K:a.ready≤st∧st≤a.due) (h2:(zGX (jK x) a r st).2=true):0≤(zGX (jK x) a r st).1.cost∧(zGX (jK x) a r st).1.cost≤2880:=by
 obtain ⟨_,h,⟨M,p,q⟩,_,_,_,_,_,_,_,N,O,Q,R⟩:=zGQ f
 have g:voOk (jK x.forecast) (jK x.chart) (zGP (jK x) a) a.src r=true:=by
  rw [cvOk,jJ] at m;exact m.2
 have H:zEZ (jK x.chart) a.src r=true:=by
  rw [zGR f,jJ] at g;exact g.1
 have j:0 < r.length:=by
  rw [zGR f,jJ,JD] at g;exact g.2
 obtain ⟨_,W,pl,J,e,G,s⟩:=zE3 H
 have t:r.length≤8:=by have:=zF4 h (zEN e) s;omega
 have c:∀ i,i < (minL (jK x.chart) (zGP (jK x) a) r r.length).length→1≤(minL (jK x.chart) (zGP (jK x) a) r r.length).getD i 0∧(minL (jK x.chart) (zGP (jK x) a) r r.length).getD i 0≤480:=fun i b=>by
  rw [minL,rmap_len] at b
  rw [zHF b]
  have u:=zE4 e (qV _) i b b
  have d:r.getD i 0=r[i]:=by rw [ja,qX b];rfl
  rw [d]
  exact zHx (zHy h (by omega))
 have X:(minL (jK x.chart) (zGP (jK x) a) r r.length).length=r.length:=by rw [minL,rmap_len]
 unfold zGX at h2 ⊢
 rw [show (jK x).forecast=jK x.forecast from rfl,show (jK x).chart=jK x.chart from rfl] at h2 ⊢
 cases o:zGN (jK x.forecast) (jK x.chart) (zGP (jK x) a) a.src r st with
 | none=>rw [o] at h2;cases h2
 | some l =>
  rw [o] at h2
  dsimp only at h2 ⊢
  have d:=o
  rw [zGN,if_pos g,zGD] at d
  split at d
  ·rw [show (zGx (jK x.forecast) (jK x.chart) (zGP (jK x) a) r r.length).length=r.length by rw [zGx,rmap_len]] at d
   obtain ⟨h4,w,h6⟩:=zHC (by omega) c (by omega) d
   have y:arOk (jK x.chart) (zGP (jK x) a) r l=true:=by
    rw [arOk,jJ,jJ,jJ,jd,JH,JD,JD,p]
    refine ⟨⟨⟨?_,q⟩,j⟩,by omega⟩
    rw [zFa,if_pos ⟨h,fun i b=>by
     have u:=zE4 e (qV _) i b b
     rw [rmOk,iget b,JD];exact u⟩]
    have:=zHG h (fun i b=>zE4 e (qV _) i b b) t (k:=r.length) (qV _)
    rw [qG] at this
    omega
   have hA:zFx (jK x.chart) (zGP (jK x) a) r l=l.getD (r.length - 1) 0+(minL (jK x.chart) (zGP (jK x) a) r r.length).getD (r.length - 1) 0:=by
    have D:=w (r.length - 1) (qV _)
    have F:=c (r.length - 1) (by omega)
    rw [zHF (by omega)] at F ⊢
    rw [zFx,if_pos y,if_pos (by rw [In,jJ,JD,JD];exact D),zjz (by omega)]
   have Y:zFx (jK x.chart) (zGP (jK x) a) r l≤2880:=JE h2
   have D:=w (r.length - 1) (qV _)
   have F:=c (r.length - 1) (by omega)
   have h9:=zHB c (k:=r.length) (by omega)
   have Z:zHA (minL (jK x.chart) (zGP (jK x) a) r r.length) r.length=zHA (minL (jK x.chart) (zGP (jK x) a) r r.length) (r.length - 1)+(minL (jK x.chart) (zGP (jK x) a) r r.length).getD (r.length - 1) 0:=by
    obtain ⟨k,hk⟩:∃ k,r.length=k+1:=⟨r.length - 1,by omega⟩
    rw [show zHA (minL (jK x.chart) (zGP (jK x) a) r r.length) r.length=zHA (minL (jK x.chart) (zGP (jK x) a) r r.length) (r.length - 1+1) by rw [show r.length - 1+1=r.length by omega]]
    rfl
   have n:=zHD c (by omega) (z:=zFx (jK x.chart) (zGP (jK x) a) r l - a.ready) (by omega) (k:=r.length) (by omega)
   rw [qy (by omega)] at n
   show 0≤zGV a.ready (zFx (jK x.chart) (zGP (jK x) a) r l) (minL (jK x.chart) (zGP (jK x) a) r r.length)∧zGV a.ready (zFx (jK x.chart) (zGP (jK x) a) r l) (minL (jK x.chart) (zGP (jK x) a) r r.length)≤2880
   rw [zGV,zjz (by omega),n]
   omega
  ·cases d
theorem zHI {x:DHarbour} {a:DCall}:∀ y ∈ zHa (jK x) a,0≤y.cost∧y.cost≤2880:=by
 cases b:zBZ (jK x) a with
 | false=>rw [zHe b];intro y c;cases c
 | true =>
  rw [zHa,if_pos b]
  obtain ⟨_,_,_,_,_,_,_,_,_,_,d,i,j,e⟩:=zGQ b
  cases f:zGl (jK x).chart a.src a.dst with
  | none=>intro y c;cases c
  | some r =>
   dsimp only
   exact zHE d e (fun s g h2 h=>zHH b (zHd b f) ⟨g,h2⟩ h) (qF _) (fun y c=>by cases c)
def zHJ (c:PChart) (f:List DShip) (p:DPassage):List DDuty:=wQ (f.getD p.ship.toNat dH).tugs.toNat (zFo c p p)
def tugL (c:PChart) (f:List DShip) (l:List DPassage):List DDuty:=l.flatMap (zHJ c f)
def zHK (c:PChart) (f:List DShip) (l:List DPassage):Option (List DDuty):=if (∀ i,i < l.length→pOk c f l i=true)∧(tugL c f l).length≤12 then some (tugL c f l) else none
theorem zHL {c:PChart} {f:List DShip} {l:List DPassage} {k:Nat} (a:k < l.length):tugL c f (l.take (k+1))=tugL c f (l.take k) ++ zHJ c f l[k]:=by
 rw [tugL,qw a,jF,wV,uH,yJ];rfl
theorem zHM {c:PChart} {f:List DShip} {l:List DPassage} {k:Nat}:(tugL c f (l.take k)).length≤(tugL c f l).length:=by
 conv=>rhs;rw [← yk k l]
 rw [tugL,tugL,jF,jP];omega
theorem zHN {c:PChart} {f:List DShip} {l:List DPassage} {k:Nat} (a:k < l.length) (h:pOk c f l k=false):zHK c f l=none:=by
 rw [zHK,if_neg];intro e;rw [e.1 k a] at h;cases h
theorem zHO {c:PChart} {f:List DShip} {l:List DPassage} {k:Nat} (h:12 < (tugL c f (l.take k)).length):zHK c f l=none:=by
 rw [zHK,if_neg];intro e;have:=zHM (c:=c) (f:=f) (l:=l) (k:=k);omega
theorem zHP {c:DChart} {f:List DShip} {l:List DPassage} {k:Nat} (d:k < l.length) (h:pOk (jK c) f l k=true):(0≤l[k].ship∧l[k].ship < f.length)∧(0≤l[k].seg∧l[k].seg < c.segments.l.length)∧0≤(f.getD l[k].ship.toNat dH).tugs∧(f.getD l[k].ship.toNat dH).tugs≤4:=by
 rw [pOk,qget d,zCc,zCk] at h
 simp only [jJ,JD] at h
 obtain ⟨⟨_,b⟩,a,_⟩:=h
 refine ⟨⟨a.1,a.2.1⟩,⟨a.2.2.1,a.2.2.2.1⟩,?_⟩
 simp only [zBB,jJ,JD] at b
 have:=b.2 l[k].ship.toNat (by omega)
 simp only [shOk,zBA,In,jJ,JD] at this
 exact this.1.2
theorem zHQ {l:List DDuty} {d:DDuty} {j:Nat}:(l ++ wQ (j+1) d).flatMap qx=(l ++ wQ j d).flatMap qx ++ qx d:=by
 rw [List.replicate_succ',← yx,jF (xs:=l ++ wQ j d)];simp
theorem zHR {c:DChart} {h:Hp} (e:jD h c) {p:DPassage} (b:jD h p) (f:0≤p.seg∧p.seg < c.segments.l.length):jD h (zFo (jK c) p p):=by
 have d:p.seg.toNat < c.segments.l.length:=by omega
 have a:=e.2.el d
 show I64 _∧I64 _∧I64 _∧I64 _
 rw [zFo,zCe _ _ d]
 refine ⟨b.2.2.1,b.2.2.2,?_,?_⟩
 ·dsimp only;split
  ·exact a.1
  ·exact a.2.1
 ·dsimp only;split
  ·exact a.2.1
  ·exact a.1
theorem zHS {c:DChart} {h:Hp} (e:jD h c) {f:List DShip} {l:List DPassage} {k:Nat} (g:∀ x ∈ l,jD h x) (o:k≤l.length) (j:∀ i,i < k→pOk (jK c) f l i=true):∀ x ∈ tugL (jK c) f (l.take k),jD h x:=by
 intro x m
 obtain ⟨p,d,a⟩:=List.mem_flatMap.1 m
 obtain ⟨i,n,rfl⟩:=qL d
 rw [ww] at n
 rw [List.getElem_take] at a
 have b:i < l.length:=by omega
 rw [(List.mem_replicate.1 a).2]
 exact zHR e (g _ (qd b)) (zHP b (j i (by omega))).2.1
theorem zHT (c:DChart) (f:Sl DShip) (a:Sl DPassage) (h:Hp) (D:jD h c) (r:f.Ok h) (t:a.Ok h):Ct jV 284 [c.v,f.val,a.val] h fun v h'=>∃ s:Sl DDuty,v=.tuple #[s.val,.bool (zHK (jK c) f.l a.l).isSome]∧s.l=(zHK (jK c) f.l a.l).getD []∧s.Ok h'∧Mine h h' s:=by
 have hl:=t.max
 have aa:=r.max
 refine zdn (fun A W=>by simp) Tryz.func284 rfl rfl (by simp) fun W0=>?_
 refine Wk ?_
 refine zng (ι:=Nat) (fun k=>⟨[(1,true,.c (.v f.val)),(3,true,.c (.p 0 0)),(8,true,.c (.s 1)),(15,true,.c (.v a.val)),(16,true,.c (.v (.int .i64 a.l.length))),(17,true,.c (.v (.int .i64 k)))],[(0,.box 57 [.v c.points.val,.v c.segments.val]),(1,.row 303 4 (tugL (jK c) f.l (a.l.take k)).length ((tugL (jK c) f.l (a.l.take k)).flatMap qx))],h,2⟩) (fun k=>k≤a.l.length∧(∀ i,i < k→pOk (jK c) f.l a.l i=true)∧(tugL (jK c) f.l (a.l.take k)).length≤12) (fun k=>a.l.length - k) 0 ⟨jC _,zBu,jC _⟩ [0,1] ?_ ?_
 ·refine Evs ?_
  exact Gk
 intro k n
 refine Wk ?_
 refine zc9 rfl (fun F=>?_) (fun F=>?_)
 ·have b:=zjH F
  repeat' first|refine Wa ?_|refine zhF (fun _=>zCn c f _ _ D r) ?_|(simp only [go_sem,jq,jj,jy,jv,jk,jx,zkV t b,t.some b,b,jW];try rfl)|refine Wb ?_|fail
  refine zc9 rfl (fun g=>?_) (fun g=>?_)
  ·rw [jd] at g
   refine Wk ?_
   rw [zHN b (by rw [pOk,qget b];exact g)]
   exact ⟨⟨none,0,[]⟩,rfl,rfl,znE,Mine.nil⟩
  rw [jf] at g
  have g:pOk (jK c) f.l a.l k=true:=by rw [pOk,qget b];exact g
  have G:=zBs n.2.1 g
  obtain ⟨⟨Y,Z⟩,⟨g1,g2⟩,M,t2⟩:=zHP b g
  have o:a.l[k].ship.toNat < f.l.length:=by omega
  have H:a.l[k].ship < (f.l.length:Int):=Z
  have u:(f.l.getD a.l[k].ship.toNat dH).tugs=f.l[a.l[k].ship.toNat].tugs:=by simp [ja,o]
  rw [u] at M t2
  obtain ⟨w,N⟩:∃ w:Nat,f.l[a.l[k].ship.toNat].tugs=w:=⟨_,(Int.toNat_of_nonneg M).symm⟩
  have hL:=n.2.2
  have e:=zHL (c:=jK c) (f:=f.l) b
  rw [zHJ,u,N,jW] at e
  generalize hT:tugL (jK c) f.l (a.l.take k)=m at e hL
  repeat' first|refine Wa ?_|refine zhF (fun _=>zCf c _ _ D g1 g2) ?_|(simp only [go_sem,jq,jj,jy,jv,jk,jx];try rfl)|refine Wb ?_|fail
  refine zng (ι:=Nat) (fun j=>⟨[(1,true,.c (.v f.val)),(3,true,.c (.p 0 0)),(8,true,.c (.s 1)),(10,true,.c (.p 2 0)),(11,true,.c (.v (.int .i64 (zB9 (jK c) a.l[k]).1))),(12,true,.c (.v (.int .i64 (zB9 (jK c) a.l[k]).2))),(13,true,.c (.v (.int .i64 j))),(15,true,.c (.v a.val)),(16,true,.c (.v (.int .i64 a.l.length))),(17,true,.c (.v (.int .i64 k)))],[(0,.box 57 [.v c.points.val,.v c.segments.val]),(1,.row 303 4 (m ++ wQ j (zFo (jK c) a.l[k] a.l[k])).length ((m ++ wQ j (zFo (jK c) a.l[k] a.l[k])).flatMap qx)),(2,.box 222 [.v (.int .i64 a.l[k].ship),.v (.int .i64 a.l[k].seg),.v (.bool a.l[k].toward),.v (.int .i64 a.l[k].start),.v (.int .i64 a.l[k].fin)])],h,3⟩) (fun j=>j≤w) (fun j=>w - j) 0 (jC _) [0,1,2] ?_ ?_
  ·refine Evs ?_
   simp only [List.replicate_zero,yJ]
   exact Gk
  intro j hj
  have ab:(m ++ wQ j (zFo (jK c) a.l[k] a.l[k])).length=m.length+j:=by rw [jP,yV]
  have J:(m ++ wQ (j+1) (zFo (jK c) a.l[k] a.l[k])).length=(m ++ wQ j (zFo (jK c) a.l[k] a.l[k])).length+1:=by simp only [jP,yV];omega
  have ac:=ziq (f:=qx) (k:=4) (fun x:DDuty=>rfl) (l:=m ++ wQ j (zFo (jK c) a.l[k] a.l[k]))
  have O:=zHQ (l:=m) (d:=zFo (jK c) a.l[k] a.l[k]) (j:=j)
  repeat' first|refine Wa ?_|(simp only [go_sem,jq,jj,jy,jv,jk,jx,zm8 r o,r.some o,Y,H,N];try rfl)|refine Wb ?_|fail
  refine zc9 rfl (fun K=>?_) (fun K=>?_)
  ·have y:=zjH K
   refine Wk ?_
   refine ⟨by simp only [maxLen];omega,by omega,?_⟩
   refine Wk ?_
   refine ⟨j+1,[0,4,2],y,by omega,?_⟩
   refine Evs ?_
   rw [O,J]
   exact ⟨zjB (zjA y (by omega)),rfl,rfl,by decide⟩
  ·have Q:=zjI K
   have R:j=w:=by omega
   subst R
   rw [← e]
   refine Wk ?_
   refine zc9 rfl (fun q=>?_) (fun q=>?_)
   ·have q:=JE q
    refine Wk ?_
    rw [zHO (k:=k+1) (by omega)]
    exact ⟨⟨none,0,[]⟩,rfl,rfl,znE,Mine.nil⟩
   ·have q:=JF q
    refine Wk ?_
    refine ⟨k+1,[0,1],⟨b,G,by omega⟩,by omega,?_⟩
    refine Evs ?_
    refine ⟨zjB (zjA b (by omega)),?_⟩
    exact Gk
 ·have Q:=zjI F
  have X:k=a.l.length:=by omega
  have z:a.l.take k=a.l:=by rw [X,qG]
  have hF:zHK (jK c) f.l a.l=some (tugL (jK c) f.l (a.l.take k)):=by rw [zHK,z,if_pos ⟨fun i hi=>n.2.1 i (by omega),by rw [← z];exact n.2.2⟩]
  refine zc6 ?_
  refine Evs ?_
  refine zl7 1 (tugL (jK c) f.l (a.l.take k)) rfl rfl rfl rfl (by decide) (zHS D t.2.2.2.1 n.1 n.2.1) h (wW _) (Mines.flat (fun _=>rfl) (fun _=>trivial)) fun s h' e1 e2 e3 e4=>?_
  refine Wk ?_
  rw [hF]
  exact ⟨s,rfl,e1,e2,e4⟩
theorem zHU (c:DChart) (f:Sl DShip) (a:Sl DPassage) (h:Hp) (D:jD h c) (r:f.Ok h) (t:a.Ok h):Ct jV 262 [c.v,f.val,a.val] h fun v h'=>∃ s:Sl DDuty,v=.tuple #[s.val,.bool (zHK (jK c) f.l a.l).isSome]∧s.l=(zHK (jK c) f.l a.l).getD []∧s.Ok h'∧Mine h h' s:=by
 have hl:=t.max
 have aa:=r.max
 refine zdn (fun A W=>by simp) Tryz.func262 rfl rfl (by simp) fun W0=>?_
 refine Wk ?_
 refine zng (ι:=Nat) (fun k=>⟨[(1,true,.c (.v f.val)),(3,true,.c (.p 0 0)),(8,true,.c (.s 1)),(12,true,.c (.v a.val)),(13,true,.c (.v (.int .i64 a.l.length))),(14,true,.c (.v (.int .i64 k)))],[(0,.box 57 [.v c.points.val,.v c.segments.val]),(1,.row 303 4 (tugL (jK c) f.l (a.l.take k)).length ((tugL (jK c) f.l (a.l.take k)).flatMap qx))],h,2⟩) (fun k=>k≤a.l.length∧(∀ i,i < k→pOk (jK c) f.l a.l i=true)∧(tugL (jK c) f.l (a.l.take k)).length≤12) (fun k=>a.l.length - k) 0 ⟨jC _,zBu,jC _⟩ [0,1] ?_ ?_
 ·refine Evs ?_
  exact Gk
 intro k n
 refine Wk ?_
 refine zc9 rfl (fun F=>?_) (fun F=>?_)
 ·have b:=zjH F
  repeat' first|refine Wa ?_|refine zhF (fun _=>zCm c f _ _ D r) ?_|(simp only [go_sem,jq,jj,jy,jv,jk,jx,zkV t b,t.some b,b,jW];try rfl)|refine Wb ?_|fail
  refine zc9 rfl (fun g=>?_) (fun g=>?_)
  ·rw [jd] at g
   refine Wk ?_
   rw [zHN b (by rw [pOk,qget b];exact g)]
   exact ⟨⟨none,0,[]⟩,rfl,rfl,znE,Mine.nil⟩
  rw [jf] at g
  have g:pOk (jK c) f.l a.l k=true:=by rw [pOk,qget b];exact g
  have G:=zBs n.2.1 g
  obtain ⟨⟨i1,i2⟩,⟨M,N⟩,O,t2⟩:=zHP b g
  have o:a.l[k].ship.toNat < f.l.length:=by omega
  have H:a.l[k].ship < (f.l.length:Int):=i2
  have u:(f.l.getD a.l[k].ship.toNat dH).tugs=f.l[a.l[k].ship.toNat].tugs:=by simp [ja,o]
  rw [u] at O t2
  obtain ⟨w,Q⟩:∃ w:Nat,f.l[a.l[k].ship.toNat].tugs=w:=⟨_,(Int.toNat_of_nonneg O).symm⟩
  have hL:=n.2.2
  have e:=zHL (c:=jK c) (f:=f.l) b
  rw [zHJ,u,Q,jW] at e
  generalize hT:tugL (jK c) f.l (a.l.take k)=m at e hL
  repeat' first|refine Wa ?_|(simp only [go_sem,jq,jj,jy,jv,jk,jx,zm8 r o,r.some o,i1,H,Q];try rfl)|refine Wb ?_|fail
  refine zng (ι:=Nat) (fun j=>⟨[(1,true,.c (.v f.val)),(3,true,.c (.p 0 0)),(8,true,.c (.s 1)),(10,true,.c (.p 2 0)),(28,true,.c (.v (.int .i64 w))),(29,true,.c (.v (.int .i64 j))),(12,true,.c (.v a.val)),(13,true,.c (.v (.int .i64 a.l.length))),(14,true,.c (.v (.int .i64 k)))],[(0,.box 57 [.v c.points.val,.v c.segments.val]),(1,.row 303 4 (m ++ wQ j (zFo (jK c) a.l[k] a.l[k])).length ((m ++ wQ j (zFo (jK c) a.l[k] a.l[k])).flatMap qx)),(2,.box 222 [.v (.int .i64 a.l[k].ship),.v (.int .i64 a.l[k].seg),.v (.bool a.l[k].toward),.v (.int .i64 a.l[k].start),.v (.int .i64 a.l[k].fin)])],h,3⟩) (fun j=>j≤w) (fun j=>w - j) 0 (jC _) [0,1,2] ?_ ?_
  ·refine Evs ?_
   simp only [List.replicate_zero,yJ]
   exact Gk
  intro j hj
  have ab:(m ++ wQ j (zFo (jK c) a.l[k] a.l[k])).length=m.length+j:=by rw [jP,yV]
  have J:(m ++ wQ (j+1) (zFo (jK c) a.l[k] a.l[k])).length=(m ++ wQ j (zFo (jK c) a.l[k] a.l[k])).length+1:=by simp only [jP,yV];omega
  have ac:=ziq (f:=qx) (k:=4) (fun x:DDuty=>rfl) (l:=m ++ wQ j (zFo (jK c) a.l[k] a.l[k]))
  have R:=zHQ (l:=m) (d:=zFo (jK c) a.l[k] a.l[k]) (j:=j)
  refine Wk ?_
  refine zc9 rfl (fun K=>?_) (fun K=>?_)
  ·have y:=zjH K
   repeat' first|refine Wa ?_|refine zhF (fun _=>zFt c _ _ _ D M N M N) ?_|(simp only [go_sem,jq,jj,jy,jv,jk,jx];try rfl)|refine Wb ?_|fail
   refine ⟨by simp only [maxLen];omega,by omega,?_⟩
   refine Wk ?_
   refine ⟨j+1,[0,4,2],y,by omega,?_⟩
   refine Evs ?_
   rw [R,J]
   exact ⟨zjB (zjA y (by omega)),rfl,rfl,by decide⟩
  ·have X:=zjI K
   have Y:j=w:=by omega
   subst Y
   rw [← e]
   refine Wk ?_
   refine zc9 rfl (fun q=>?_) (fun q=>?_)
   ·have q:=JE q
    refine Wk ?_
    rw [zHO (k:=k+1) (by omega)]
    exact ⟨⟨none,0,[]⟩,rfl,rfl,znE,Mine.nil⟩
   ·have q:=JF q
    refine Wk ?_
    refine ⟨k+1,[0,1],⟨b,G,by omega⟩,by omega,?_⟩
    refine Evs ?_
    refine ⟨zjB (zjA b (by omega)),?_⟩
    exact Gk
 ·have X:=zjI F
  have Z:k=a.l.length:=by omega
  have z:a.l.take k=a.l:=by rw [Z,qG]
  have hF:zHK (jK c) f.l a.l=some (tugL (jK c) f.l (a.l.take k)):=by rw [zHK,z,if_pos ⟨fun i hi=>n.2.1 i (by omega),by rw [← z];exact n.2.2⟩]
  refine zc6 ?_
  refine Evs ?_
  refine zl7 1 (tugL (jK c) f.l (a.l.take k)) rfl rfl rfl rfl (by decide) (zHS D t.2.2.2.1 n.1 n.2.1) h (wW _) (Mines.flat (fun _=>rfl) (fun _=>trivial)) fun s h' e1 e2 e3 e4=>?_
  refine Wk ?_
  rw [hF]
  exact ⟨s,rfl,e1,e2,e4⟩
def dD:DDuty:=⟨0,0,0,0⟩
def zIr (d:DDuty):Bool:=decide (0≤d.src∧d.src < d.dst∧d.dst≤2880∧0≤d.a∧d.a < 8∧0≤d.b∧d.b < 8)
def zIs (l:List DDuty):Bool:=decide (l.length≤12) && l.all zIr
def F_mv (moves:List Int) (d e:DDuty):Int:=moves.getD (8 * d.b+e.a).toNat 0
def zIt (pause:Int) (moves:List Int) (d e:DDuty):Bool:=zIr d && zIr e && decide (d.dst+(pause+F_mv moves d e)≤e.src)
theorem dget {l:List DDuty} {i:Nat} (a:i < l.length):l.getD i dD=l[i]:=by simp [ja,a]
theorem zIu {l:List Int} (h:zBD l=true):l.length=64∧∀ i (a:i < l.length),0≤l[i]∧l[i]≤240:=by
 simp only [zBD,jJ,JD] at h
 refine ⟨h.1,fun i a=>?_⟩
 have:=List.all_eq_true.1 h.2 _ (qd a)
 simp only [In,jJ,JD] at this
 exact this
theorem zIv (d:DDuty) (h:Hp):Ct jV 316 [d.v] h fun v h'=>v=.bool (zIr d)∧h'=h:=by
 refine zdn (fun A W=>by simp) Tryz.func316 rfl rfl (by simp) fun W0=>?_
 repeat' first|refine Wa ?_|refine zhF (fun _=>zAA _ _ _ _) ?_|(simp (maxSteps:=2000000) only [go_sem,jq,jj,jy,jv,jk,jx];try rfl)|refine Wb ?_|fail
 congr 1
 rw [zIr,yq]
 simp only [jJ,JD]
 constructor <;> intro e <;> omega
theorem zIw (a:Sl DDuty) (h:Hp) (g:a.Ok h):Ct jV 302 [a.val] h fun v h'=>v=.bool (zIs a.l)∧h'=h:=by
 have m:=g.max
 rw [zIs]
 refine zdn (fun A W=>by simp) Tryz.func302 rfl rfl (by simp) fun W0=>?_
 refine Wk ?_
 refine zc9 rfl (fun d=>?_) (fun d=>?_)
 ·have d:=JE d
  rw [decide_eq_false (by omega)]
  exact Wk0
 have d:=JF d
 refine Wk ?_
 refine zde (ι:=Nat) (fun k=>⟨[(8,true,.c (.v a.val)),(9,true,.c (.v (.int .i64 a.l.length))),(10,true,.c (.v (.int .i64 k)))],[],h,0⟩) (fun k=>k≤a.l.length∧(a.l.take k).all zIr=true) (fun k=>a.l.length - k) 0 ⟨jC _,rfl⟩ ?_ ?_
 ·refine Evs ?_
  exact Gk
 intro k i
 refine Wk ?_
 refine zc9 rfl (fun e=>?_) (fun e=>?_)
 ·have b:=zjH e
  repeat' first|refine Wa ?_|refine zhF (fun _=>zIv _ _) ?_|(simp (maxSteps:=2000000) only [go_sem,jq,jj,jy,jv,jk,jx,zlC g b,g.some b,b,jW];try rfl)|refine Wb ?_|fail
  refine zc9 rfl (fun f=>?_) (fun f=>?_)
  ·rw [jd] at f
   refine Wk ?_
   rw [zA6 b f,qP]
  ·rw [jf] at f
   refine Wk ?_
   exact ⟨k+1,⟨b,zA7 b i.2 f⟩,by omega,zjB (zjA b (by omega))⟩
 ·have j:=zjI e
  refine Wk ?_
  have:=i.2
  rw [qy j] at this
  rw [this,JG (by omega:a.l.length≤12)];rfl
theorem zIx (c:Int) (m:Sl Int) (d e:DDuty) (h:Hp) (g:m.Ok h) (j:In c 0 2880=true) (k:zBD m.l=true) (t:0≤d.b∧d.b < 8) (u:0≤e.a∧e.a < 8):Ct jV 324 [.int .i64 c,m.val,d.v,e.v] h fun v h'=>v=.tuple #[.int .i64 (c+F_mv m.l d e),.bool true]∧h'=h:=by
 obtain ⟨z,n⟩:=zIu k
 have o:=j
 simp only [In,jJ,JD] at o
 have f:(8 * d.b+e.a).toNat < m.l.length:=by omega
 have p:0≤8 * d.b+e.a:=by omega
 have q:8 * d.b+e.a < (m.l.length:Int):=by omega
 have w:IntKind.i64.wrap (8 * d.b)=8 * d.b:=zjz (by omega)
 have r:IntKind.i64.wrap (d.b * 8)=8 * d.b:=by rw [zjz (by omega)];omega
 have x:IntKind.i64.wrap (8 * d.b+e.a)=8 * d.b+e.a:=zjz (by omega)
 have n:=n _ f
 have s:F_mv m.l d e=m.l[(8 * d.b+e.a).toNat]:=by rw [F_mv];simp [ja,f]
 have y:IntKind.i64.wrap (c+m.l[(8 * d.b+e.a).toNat])=c+m.l[(8 * d.b+e.a).toNat]:=zjz (by omega)
 rw [s]
 refine zdn (fun A W=>by simp) Tryz.func324 rfl rfl (by simp) fun W0=>?_
 repeat' first|refine Wa ?_|refine zhF (fun _=>zBQ _ _ _ g) ?_|refine zhF (fun _=>zAA _ _ _ _) ?_|(simp (maxSteps:=2000000) only [go_sem,jq,jj,jy,jv,jk,jx];try rfl)|refine Wb ?_|fail
 refine zc9 rfl (fun i=>?_) (fun i=>?_)
 ·rw [j,k,JG t.1,JG u.1,JG (show d.b≤7 by omega),JG (show e.a≤7 by omega)] at i
  cases i
 repeat' first|refine Wa ?_|(simp (maxSteps:=2000000) only [go_sem,jq,jj,jy,jv,jk,jx,w,r,x,y,zkR g f,g.some f,f,p,q];try rfl)|refine Wb ?_|fail
theorem zIy (a:Sl DDuty) (h:Hp) (g:a.Ok h):Ct jV 318 [a.val] h fun v h'=>v=.bool (zIs a.l)∧h'=h:=by
 have m:=g.max
 rw [zIs]
 refine zdn (fun A W=>by simp) Tryz.func318 rfl rfl (by simp) fun W0=>?_
 refine Wk ?_
 refine zc9 rfl (fun e=>?_) (fun e=>?_)
 ·have e:=JE e
  rw [decide_eq_false (by omega)]
  exact Wk0
 have e:=JF e
 refine Wk ?_
 refine zde (ι:=Nat) (fun k=>⟨[(8,true,.c (.v a.val)),(9,true,.c (.v (.int .i64 a.l.length))),(10,true,.c (.v (.int .i64 k)))],[],h,0⟩) (fun k=>k≤a.l.length∧(a.l.take k).all zIr=true) (fun k=>a.l.length - k) 0 ⟨jC _,rfl⟩ ?_ ?_
 ·refine Evs ?_
  exact Gk
 intro k i
 refine Wk ?_
 refine zc9 rfl (fun f=>?_) (fun f=>?_)
 ·have b:=zjH f
  repeat' first|refine Wa ?_|refine zhF (fun _=>zAD _ _ _) ?_|(simp (maxSteps:=2000000) only [go_sem,jq,jj,jy,jv,jk,jx,zlC g b,g.some b,b,jW];try rfl)|refine Wb ?_|fail
  refine zc9 rfl (fun d=>?_) (fun d=>?_)
  ·have d:zIr a.l[k]=false:=by
    rw [zIr,JH]
    simp only [jQ,jd,qA,JD,JH] at d
    omega
   refine Wk ?_
   rw [zA6 b d,qP]
  ·have d:zIr a.l[k]=true:=by
    rw [zIr,JD]
    simp only [jp,jf,jJ,JD,JH] at d
    omega
   refine Wk ?_
   exact ⟨k+1,⟨b,zA7 b i.2 d⟩,by omega,zjB (zjA b (by omega))⟩
 ·have j:=zjI f
  refine Wk ?_
  have:=i.2
  rw [qy j] at this
  rw [this,JG (by omega:a.l.length≤12)];rfl
theorem zIz (c:Int) (m:Sl Int) (d e:DDuty) (h:Hp) (g:m.Ok h) (j:In c 0 2880=true) (k:zBD m.l=true) (n:0≤d.b∧d.b < 8) (o:0≤e.a∧e.a < 8):Ct jV 325 [.int .i64 c,m.val,d.v,e.v] h fun v h'=>v=.tuple #[.int .i64 (c+F_mv m.l d e),.bool true]∧h'=h:=by
 obtain ⟨z,p⟩:=zIu k
 have q:=j
 simp only [In,jJ,JD] at q
 have f:(8 * d.b+e.a).toNat < m.l.length:=by omega
 have r:0≤8 * d.b+e.a:=by omega
 have s:8 * d.b+e.a < (m.l.length:Int):=by omega
 have w:IntKind.i64.wrap (8 * d.b)=8 * d.b:=zjz (by omega)
 have t:IntKind.i64.wrap (d.b * 8)=8 * d.b:=by rw [zjz (by omega)];omega
 have x:IntKind.i64.wrap (8 * d.b+e.a)=8 * d.b+e.a:=zjz (by omega)
 have p:=p _ f
 have u:F_mv m.l d e=m.l[(8 * d.b+e.a).toNat]:=by rw [F_mv];simp [ja,f]
 have y:IntKind.i64.wrap (c+m.l[(8 * d.b+e.a).toNat])=c+m.l[(8 * d.b+e.a).toNat]:=zjz (by omega)
 rw [u]
 refine zdn (fun A W=>by simp) Tryz.func325 rfl rfl (by simp) fun W0=>?_
 repeat' first|refine Wa ?_|refine zhF (fun _=>zAC _ _) ?_|refine zhF (fun _=>zBR _ _ g) ?_|refine zhF (fun _=>zAD _ _ _) ?_|(simp (maxSteps:=2000000) only [go_sem,jq,jj,jy,jv,jk,jx];try rfl)|refine Wb ?_|fail
 refine zc9 rfl (fun i=>?_) (fun i=>?_)
 ·rw [show (decide (0≤c) && decide (c≤2880))=true from j,k,JG n.1,JG o.1,JG n.2,JG o.2] at i
  cases i
 repeat' first|refine Wa ?_|(simp (maxSteps:=2000000) only [go_sem,jq,jj,jy,jv,jk,jx,w,t,x,y,zkR g f,g.some f,f,r,s];try rfl)|refine Wb ?_|fail
theorem zIA {d:DDuty} (h:zIr d=true):0≤d.src∧d.src < d.dst∧d.dst≤2880∧0≤d.a∧d.a < 8∧0≤d.b∧d.b < 8:=JE h
theorem zIB {m:List Int} {d e:DDuty} (f:zBD m=true) (g:zIr d=true) (h:zIr e=true):0≤F_mv m d e∧F_mv m d e≤240:=by
 obtain ⟨j,i⟩:=zIu f
 have k:=zIA g
 have h2:=zIA h
 have c:(8 * d.b+e.a).toNat < m.length:=by omega
 have:=i _ c
 rw [F_mv,ja,qX c]
 exact this
def fol2 (pause:Int) (m:List Int) (d e:DDuty):Bool:=zIt pause m d e || zIt pause m e d
theorem zIC (a:Int) (m:Sl Int) (d e:DDuty) (h:Hp) (k:m.Ok h) (f:In a 0 2880=true) (g:zBD m.l=true) (b:zIr d=true) (c:zIr e=true):Ct jV 317 [.int .i64 a,m.val,d.v,e.v] h fun v h'=>v=.bool (zIt a m.l d e)∧h'=h:=by
 have i:=zIA b
 have h2:=zIA c
 have o:=zIB g b c
 have j:=f
 simp only [In,jJ,JD] at j
 have n:IntKind.i64.wrap (d.dst+(a+F_mv m.l d e))=d.dst+(a+F_mv m.l d e):=zjz (by omega)
 rw [zIt,b,c,qp,qp]
 refine zdn (fun A W=>by simp) Tryz.func317 rfl rfl (by simp) fun W0=>?_
 repeat' first|refine Wa ?_|refine zhF (fun _=>zIx a m d e _ k f g ⟨i.2.2.2.2.2.1,i.2.2.2.2.2.2⟩ ⟨h2.2.2.2.1,h2.2.2.2.2.1⟩) ?_|refine zhF (fun _=>zIv _ _) ?_|(simp (maxSteps:=2000000) only [go_sem,jq,jj,jy,jv,jk,jx];try rfl)|refine Wb ?_|fail
 rw [n,b,c]
 try rfl
theorem zID (a:Int) (m:Sl Int) (d e:DDuty) (h:Hp) (s:m.Ok h) (j:In a 0 2880=true) (k:zBD m.l=true) (c:zIr d=true) (f:zIr e=true):Ct jV 319 [.int .i64 a,m.val,d.v,e.v] h fun v h'=>v=.bool (zIt a m.l d e)∧h'=h:=by
 have n:=zIA c
 have h2:=zIA f
 have J:=zIB k c f
 have o:=j
 simp only [In,jJ,JD] at o
 have t:IntKind.i64.wrap (d.dst+(a+F_mv m.l d e))=d.dst+(a+F_mv m.l d e):=zjz (by omega)
 rw [zIt,c,f,qp,qp]
 have u:zIs [d]=true:=by simp [zIs,c]
 have w:zIs [e]=true:=by simp [zIs,f]
 have y:jD h d:=by show I64 _∧I64 _∧I64 _∧I64 _;unfold I64;omega
 have z:jD h e:=by show I64 _∧I64 _∧I64 _∧I64 _;unfold I64;omega
 refine Ct.forget ?_
 refine zdn (fun A W=>by simp) Tryz.func319 rfl rfl (by simp) fun W0=>?_
 refine zie rfl ?_
 refine Evs ?_
 refine zie rfl ?_
 refine Evs ?_
 refine zhF (fun _=>zIz a m d e _ s j k ⟨n.2.2.2.2.2.1,n.2.2.2.2.2.2⟩ ⟨h2.2.2.2.1,h2.2.2.2.2.1⟩) ?_
 refine Evs ?_
 refine zzr [0,0,0,2,0,0,0,0,2] rfl ?_
 refine Evs ?_
 intro p cap q H
 have D:(Sl.mk p cap [d]).Ok q:=Pub.sl (l:=[d]) (by decide) H (fun x i=>by rw [List.mem_singleton.1 i];exact y)
 refine zhF (fun _=>zIy (Sl.mk p cap [d]) q D) ?_
 simp (maxSteps:=2000000) only [go_sem,jq,jj,jy,jv,jk,jx,u]
 intro g b r F
 have G:(Sl.mk g b [e]).Ok r:=Pub.sl (l:=[e]) (by decide) F (fun x i=>by rw [List.mem_singleton.1 i];exact jL H.le z)
 refine zhF (fun _=>zIy (Sl.mk g b [e]) r G) ?_
 simp (maxSteps:=2000000) only [go_sem,jq,jj,jy,jv,jk,jx,w,t]
 exact Wk0
def zIE (pause:Int) (m:List Int) (l:List DDuty):List (List Bool):=l.map fun d=>l.map fun e=>fol2 pause m d e
theorem zIF (e:Int) (m:Sl Int) (a:Sl DDuty) (h:Hp) (hm:m.Ok h) (N:In e 0 2880=true) (O:zBD m.l=true) (Q:a.Ok h) (aa:a.l.length≤12) (n:∀ i (z:i < a.l.length),zIr a.l[i]=true):Ct jV 303 [.int .i64 e,m.val,a.val] h fun v h'=>∃ s:Sl (Sl Bool),v=s.val∧s.l.map (·.l)=zIE e m.l a.l∧s.Ok h':=by
 have hl:=Q.max
 refine zdn (fun A W=>by simp) Tryz.func303 rfl rfl (by simp) fun W0=>?_
 refine Wk ?_
 refine zng (ι:=Nat × List (Sl Bool) × Hp) (fun i=>⟨[(0,true,.c (.v (.int .i64 e))),(1,true,.c (.v m.val)),(2,true,.c (.v a.val)),(7,true,.c (.s 0)),(14,true,.c (.v a.val)),(15,true,.c (.v (.int .i64 a.l.length))),(16,true,.c (.v (.int .i64 i.1)))],[(0,.row 159 1 i.1 (i.2.1.flatMap qx))],i.2.2,1⟩) (fun i=>i.1≤a.l.length∧i.2.1.length=i.1∧i.2.1.map (·.l)=(a.l.take i.1).map (fun d=>a.l.map (fol2 e m.l d))∧(∀ d ∈ i.2.1,jD i.2.2 d)∧h.le i.2.2) (fun i=>a.l.length - i.1) (0,[],h) ⟨jC _,rfl,rfl,fun _ h=>(by cases h),wW _⟩ [0] ?_ ?_
 ·refine Evs ?_
  exact Gk
 rintro ⟨k,D,R⟩ ⟨z,F,t,G,o⟩
 simp only at z F t G o
 have r:=Q.mono o
 have y:=hm.mono o
 refine Wk ?_
 refine zc9 rfl (fun H=>?_) (fun H=>?_)
 ·have g:=zjH H
  repeat' first|refine Wa ?_|(simp (maxSteps:=2000000) only [go_sem,jq,jj,jy,jv,jk,jx,zlC r g,r.some g,g,jW];try rfl)|refine Wb ?_|fail
  refine zng (ι:=Nat) (fun j=>⟨[(0,true,.c (.v (.int .i64 e))),(1,true,.c (.v m.val)),(2,true,.c (.v a.val)),(7,true,.c (.s 0)),(9,true,.c (.p 1 0)),(10,true,.c (.s 2)),(14,true,.c (.v a.val)),(15,true,.c (.v (.int .i64 a.l.length))),(16,true,.c (.v (.int .i64 k))),(21,true,.c (.v a.val)),(22,true,.c (.v (.int .i64 a.l.length))),(23,true,.c (.v (.int .i64 j)))],[(0,.row 159 1 k (D.flatMap qx)),(1,.box 303 [.v (.int .i64 a.l[k].src),.v (.int .i64 a.l[k].dst),.v (.int .i64 a.l[k].a),.v (.int .i64 a.l[k].b)]),(2,.row 4 1 j (((a.l.take j).map (fol2 e m.l a.l[k])).flatMap qx))],R,3⟩) (fun j=>j≤a.l.length) (fun j=>a.l.length - j) 0 (jC _) [0,1,2] ?_ ?_
  ·refine Evs ?_
   exact Gk
  intro j hj
  refine Wk ?_
  refine zc9 rfl (fun u=>?_) (fun u=>?_)
  ·have f:=zjH u
   repeat' first|refine Wa ?_|(simp (maxSteps:=2000000) only [go_sem,jq,jj,jy,jv,jk,jx,zlC r f,r.some f,f,jW];try rfl)|refine Wb ?_|fail
   refine zhF (fun _=>zIC e m a.l[k] a.l[j] _ y N O (n k g) (n j f)) ?_
   refine Evs ?_
   refine zhF (fun _=>zIC e m a.l[j] a.l[k] _ y N O (n j f) (n k g)) ?_
   refine Evs ?_
   refine ⟨by simp only [maxLen];omega,by omega,?_⟩
   refine Wk ?_
   refine ⟨j+1,[0,1,5],f,by omega,?_⟩
   refine Evs ?_
   rw [znH f,jF]
   exact Gi (zjA f (by omega))
  ·have J:=zjI u
   have X:j=a.l.length:=wE hj J
   subst X
   refine zc6 ?_
   refine Evs ?_
   refine zl7 2 ((a.l.take a.l.length).map (fol2 e m.l a.l[k])) rfl rfl (by simp) rfl (by decide) (fun _ _=>trivial) R (wW _) (Mines.flat (fun _=>rfl) (fun _=>trivial)) fun d h1 K M q e3=>?_
   refine Wk ?_
   refine ⟨by simp only [maxLen];omega,by omega,?_⟩
   refine Wk ?_
   refine ⟨(k+1,D ++ [d],h1),[4],⟨g,by simp [F],by rw [qB,t,znH g,wx,yD,K,qG],fun x w=>?_,jB o q⟩,by simp only;omega,?_⟩
   ·rcases List.mem_append.1 w with w|w
    ·exact jL q (G x w)
    ·rw [List.mem_singleton.1 w];exact M
   refine Evs ?_
   rw [jF]
   refine ⟨zjB (zjA g (by omega)),?_,jB o q,?_⟩ <;> repeat' first|exact rfl|exact trivial|assumption|decide|refine And.intro ?_ ?_
 ·have Y:=zjI H
  have Z:k=a.l.length:=wE z Y
  refine zc6 ?_
  refine Evs ?_
  refine zjQ 0 D rfl rfl F.symm rfl (by decide) G fun s h' K M e3 e4 e5=>?_
  refine Wk ?_
  exact ⟨s,rfl,by rw [K,t,Z,qG];rfl,M⟩
def parP (pause:Int) (m:List Int) (l:List DDuty) (i k:Nat):Bool:=decide (i ≠ k) && fol2 pause m (l.getD i dD) (l.getD k dD)
def parT (P:Nat→Nat→Bool) (n i k:Nat):List Nat:=(wg n).map fun j=>if j < i then zIo (P j) n else if j=i then zIo (P i) k else 0
def parL (P:Nat→Nat→Bool) (n:Nat):List U64:=(wg n).map fun j=>⟨zIo (P j) n⟩
theorem zIG {P:Nat→Nat→Bool} {n i k:Nat}:(parT P n i k).length=n:=by rw [parT,jH,uQ]
theorem zIH {P:Nat→Nat→Bool} {n i k:Nat} (a:i < n):(parT P n i k)[i]'(by rw [zIG];exact a)=zIo (P i) k:=by simp [parT]
theorem zII {P:Nat→Nat→Bool} {n i k:Nat} (b:i < n):(parT P n i k).set i (zIo (P i) (k+1))=parT P n i (k+1):=by
 refine Jj (by rw [wc,zIG,zIG]) fun j c h2=>?_
 rw [List.getElem_set]
 simp only [parT,qH,ua]
 split
 ·rename_i e;subst e;simp
 ·rename_i e
  have a:¬ j=i:=fun h=>e h.symm
  simp only [if_neg a]
theorem zIJ {p:Nat→Bool} {k:Nat} (h:p k=false):zIo p (k+1)=zIo p k:=by rw [zIo,if_neg (by rw [h];exact qa),Nat.or_zero]
theorem zIK {p:Nat→Bool} {k:Nat} (h:p k=true):zIo p (k+1)=zIo p k ||| 2 ^ k:=by rw [zIo,if_pos h]
theorem zIL {P:Nat→Nat→Bool} {n i k:Nat} (h:P i k=false):parT P n i (k+1)=parT P n i k:=by rw [parT,parT,zIJ h]
theorem zIM {j:Nat} (a:j < 63):IntKind.u64.wrap (1 * 2 ^ min j 64)=((2 ^ j:Nat):Int):=by
 have h2:min j 64=j:=by omega
 rw [h2,Int.one_mul,show ((2:Int) ^ j)=((2 ^ j:Nat):Int) by rw [Int.natCast_pow];rfl]
 exact zH8 (Nat.pow_lt_pow_right (by decide) (by omega))
theorem zIN {j:Nat} (a:j < 62):IntKind.i64.wrap (1 * 2 ^ min j 64)=((2 ^ j:Nat):Int):=by
 have h2:min j 64=j:=by omega
 rw [h2,Int.one_mul,show ((2:Int) ^ j)=((2 ^ j:Nat):Int) by rw [Int.natCast_pow];rfl]
 exact zH7 (Nat.pow_lt_pow_right (by decide) (by omega))
theorem zIO {P:Nat→Nat→Bool} {n i:Nat}:parT P n i n=parT P n (i+1) 0:=by
 refine Jj (by rw [zIG,zIG]) fun j a h2=>?_
 simp only [parT,qH,ua,zIo]
 by_cases h:j < i
 ·rw [if_pos h,if_pos (by omega)]
 ·rw [if_neg h]
  by_cases h':j=i
  ·subst h';rw [if_pos rfl,if_pos (Jc _)]
  ·rw [if_neg h',if_neg (by omega)];split <;> rfl
theorem zIP {P:Nat→Nat→Bool} {n:Nat}:parT P n 0 0=wQ n 0:=by
 refine Jj (by rw [zIG,yV]) fun j a h2=>?_
 simp only [parT,qH,ua,zIo,qE,if_false,List.getElem_replicate,ite_self]
theorem zIQ {P:Nat→Nat→Bool} {n:Nat}:(parT P n n 0).map (fun u=>Value.int .u64 (u:Nat))=(parL P n).flatMap qx:=by
 rw [zEc,parL,yj,parT,yj]
 refine wb fun j a=>?_
 simp only [Function.comp,if_pos (List.mem_range.1 a)]
theorem zIR {l:List Nat} {i v:Nat} (a:i < l.length):Jq i (l.map fun u=>Value.int .u64 (u:Nat)) ++ Value.int .u64 (v:Nat) :: List.drop (i+1) (l.map fun u=>Value.int .u64 (u:Nat))=(l.set i v).map fun u=>Value.int .u64 (u:Nat):=by
 rw [zEb (by rw [jH];exact a),List.map_set]
theorem zIS {l:List Nat} {i:Nat} (a:i < l.length):(l.map fun u=>Value.int .u64 (u:Nat)).getD i undef=Value.int .u64 (l[i]:Nat):=by simp [ja,a]
theorem zIT (d:Int) (m:Sl Int) (a:Sl DDuty) (h:Hp) (O:m.Ok h) (Q:In d 0 2880=true) (R:zBD m.l=true) (t:a.Ok h) (ae:a.l.length≤12) (q:∀ i (hi:i < a.l.length),zIr a.l[i]=true):Ct jV 308 [.int .i64 d,m.val,a.val] h fun v h'=>∃ s:Sl U64,v=s.val∧s.l=parL (parP d m.l a.l) a.l.length∧s.Ok h'∧Mine h h' s:=by
 have hl:=t.max
 refine zdn (fun A W=>by simp) Tryz.func308 rfl rfl (by simp) fun W0=>?_
 refine Wk ?_
 refine ⟨by simp only [maxLen];omega,by omega,?_⟩
 refine Wk ?_
 refine zng (ι:=Nat) (fun k=>⟨[(0,true,.c (.v (.int .i64 d))),(1,true,.c (.v m.val)),(2,true,.c (.v a.val)),(7,true,.c (.s 0)),(15,true,.c (.v a.val)),(16,true,.c (.v (.int .i64 a.l.length))),(17,true,.c (.v (.int .i64 k)))],[(0,.row 356 1 a.l.length ((parT (parP d m.l a.l) a.l.length k 0).map fun u=>Value.int .u64 (u:Nat)))],h,1⟩) (fun k=>k≤a.l.length) (fun k=>a.l.length - k) 0 (jC _) [0] ?_ ?_
 ·refine Evs ?_
  rw [zj5,zIP,JV]
  exact Gk
 intro k hk
 refine Wk ?_
 refine zc9 rfl (fun y=>?_) (fun y=>?_)
 ·have g:=zjH y
  repeat' first|refine Wa ?_|(simp only [go_sem,jq,jj,jy,jv,jk,jx,zlC t g,t.some g,g,jW];try rfl)|refine Wb ?_|fail
  refine zng (ι:=Nat) (fun j=>⟨[(0,true,.c (.v (.int .i64 d))),(1,true,.c (.v m.val)),(2,true,.c (.v a.val)),(7,true,.c (.s 0)),(8,true,.c (.v (.int .i64 k))),(9,true,.c (.p 1 0)),(15,true,.c (.v a.val)),(16,true,.c (.v (.int .i64 a.l.length))),(17,true,.c (.v (.int .i64 k))),(22,true,.c (.v a.val)),(23,true,.c (.v (.int .i64 a.l.length))),(24,true,.c (.v (.int .i64 j)))],[(0,.row 356 1 a.l.length ((parT (parP d m.l a.l) a.l.length k j).map fun u=>Value.int .u64 (u:Nat))),(1,.box 303 [.v (.int .i64 a.l[k].src),.v (.int .i64 a.l[k].dst),.v (.int .i64 a.l[k].a),.v (.int .i64 a.l[k].b)])],h,2⟩) (fun j=>j≤a.l.length) (fun j=>a.l.length - j) 0 (jC _) [0,1] ?_ ?_
  ·refine Evs ?_
   exact Gk
  intro j X
  refine Wk ?_
  refine zc9 rfl (fun z=>?_) (fun z=>?_)
  ·have f:=zjH z
   have o:(parP d m.l a.l) k j=(decide (k ≠ j) && (zIt d m.l a.l[k] a.l[j] || zIt d m.l a.l[j] a.l[k])):=by rw [parP,dget g,dget f];rfl
   have ag:=zIq (p:=(parP d m.l a.l) k) (k:=j)
   have ah:2 ^ j≤2 ^ 11:=wG (by decide) (by omega)
   by_cases D:k=j
   ·have r:((k:Int) != (j:Int))=false:=by rw [D];simp
    rw [decide_eq_false (by simp [D]),qc] at o
    repeat' first|refine Wa ?_|(simp only [go_sem,jq,jj,jy,jv,jk,jx,zlC t f,t.some f,f,jW,r,qW,false_implies,Jg,JA,qc];try rfl)|refine Wb ?_|fail
    refine zhF (V:=.bool false) (fun e=>by cases e) ?_
    simp only [go_sem,jq,jj,jy,jv,jk,jx,r]
    refine zhF (V:=.bool false) (fun e=>by cases e) ?_
    simp only [go_sem,jq,jj,jy,jv,jk,jx,r]
    repeat' first|refine Wa ?_|(simp only [go_sem,jq,jj,jy,jv,jk,jx,r];try rfl)|refine Wb ?_|fail
    refine zc9 rfl (fun w=>?_) (fun w=>?_)
    ·cases w
    refine Wk ?_
    refine ⟨j+1,[0,1],f,by omega,?_⟩
    refine Evs ?_
    rw [zIL o]
    exact Gi (zjA f (by omega))
   ·have r:((k:Int) != (j:Int))=true:=by simp;omega
    rw [JG D,qp] at o
    repeat' first|refine Wa ?_|(simp only [go_sem,jq,jj,jy,jv,jk,jx,zlC t f,t.some f,f,jW,r];try rfl)|refine Wb ?_|fail
    refine zhF (fun _=>zID d m a.l[k] a.l[j] _ O Q R (q k g) (q j f)) ?_
    simp only [go_sem,jq,jj,jy,jv,jk,jx,r]
    refine zhF (fun _=>zID d m a.l[j] a.l[k] _ O Q R (q j f) (q k g)) ?_
    simp only [go_sem,jq,jj,jy,jv,jk,jx,r]
    refine Wk ?_
    refine zc9 rfl (fun w=>?_) (fun w=>?_)
    ·rw [w] at o
     have M:=zIG (P:=(parP d m.l a.l)) (n:=a.l.length) (i:=k) (k:=j)
     have hG:=zIH (P:=(parP d m.l a.l)) (n:=a.l.length) (i:=k) (k:=j) g
     have Y:=zII (P:=(parP d m.l a.l)) (n:=a.l.length) (i:=k) (k:=j) g
     rw [zIK o] at Y
     have G:=zIM (j:=j) (by omega)
     have H:zaE .or .u64 ((zIo ((parP d m.l a.l) k) j:Nat):Int) ((2 ^ j:Nat):Int)=((zIo ((parP d m.l a.l) k) j ||| 2 ^ j:Nat):Int):=zIb (by omega) (by omega)
     have F:=zIS (l:=parT (parP d m.l a.l) a.l.length k j) (i:=k) (by rw [M];exact g)
     rw [hG] at F
     have J:=zIR (l:=parT (parP d m.l a.l) a.l.length k j) (i:=k) (v:=zIo ((parP d m.l a.l) k) j ||| 2 ^ j) (by rw [M];exact g)
     rw [Y] at J
     have K:((parT (parP d m.l a.l) a.l.length k j).map fun u=>Value.int .u64 (u:Nat)).length=a.l.length:=by rw [jH,M]
     refine zz5 rfl ?_
     refine U_t [0,1,4,2,5,3,6,7] rfl ?_
     simp only [go_sem,jq,jj,jy,jv,jk,jx,g,F,G,H,K,jW,wy,jY]
     refine U_1 8 0 [] rfl rfl ?_
     simp only [go_sem,jq,jj,jy,jv,jk,jx,g,F,G,H,K,jW,wy,jY]
     refine ⟨by omega,?_⟩
     refine U_d ?_
     rw [J]
     refine Wk ?_
     refine ⟨j+1,[0,1],f,by omega,?_⟩
     refine Evs ?_
     exact Gi (zjA f (by omega))
    ·rw [w] at o
     refine Wk ?_
     refine ⟨j+1,[0,1],f,by omega,?_⟩
     refine Evs ?_
     rw [zIL o]
     exact Gi (zjA f (by omega))
  ·have N:=zjI z
   have Z:j=a.l.length:=wE X N
   subst Z
   have aa:=zIO (P:=(parP d m.l a.l)) (n:=a.l.length) (i:=k)
   refine Wk ?_
   refine ⟨k+1,[0],g,by omega,?_⟩
   refine Evs ?_
   rw [← aa]
   exact Gi (zjA g (by omega))
 ·have ab:=zjI y
  have ac:k=a.l.length:=wE hk ab
  subst ac
  rw [zIQ]
  refine zc6 ?_
  refine Evs ?_
  refine zl7 0 (parL (parP d m.l a.l) a.l.length) rfl rfl (by simp [parL]) rfl (by decide) (fun x hx=>?_) h (wW _) (Mines.flat (fun _=>rfl) (fun _=>trivial)) fun s h' e1 e2 e3 e4=>?_
  ·obtain ⟨j,X,rfl⟩:=List.mem_map.1 hx
   exact yK zIq (wG (by decide) (by omega))
  refine Wk ?_
  exact ⟨s,rfl,e1,e2,e4⟩
def zIU:ByteArray:=⟨#[0,1,2,2,3,3,3,3,4,4,4,4,4,4,4,4,5,5,5,5,5,5,5,5,5,5,5,5,5,5,5,5,6,6,6,6,6,6,6,6,6,6,6,6,6,6,6,6,6,6,6,6,6,6,6,6,6,6,6,6,6,6,6,6,7,7,7,7,7,7,7,7,7,7,7,7,7,7,7,7,7,7,7,7,7,7,7,7,7,7,7,7,7,7,7,7,7,7,7,7,7,7,7,7,7,7,7,7,7,7,7,7,7,7,7,7,7,7,7,7,7,7,7,7,7,7,7,7,8,8,8,8,8,8,8,8,8,8,8,8,8,8,8,8,8,8,8,8,8,8,8,8,8,8,8,8,8,8,8,8,8,8,8,8,8,8,8,8,8,8,8,8,8,8,8,8,8,8,8,8,8,8,8,8,8,8,8,8,8,8,8,8,8,8,8,8,8,8,8,8,8,8,8,8,8,8,8,8,8,8,8,8,8,8,8,8,8,8,8,8,8,8,8,8,8,8,8,8,8,8,8,8,8,8,8,8,8,8,8,8,8,8,8,8,8,8,8,8,8,8,8,8,8,8,8,8]⟩
def zIV (x k:Nat):Prop:=x < 2 ^ k∧(0 < x→0 < k∧2 ^ (k - 1)≤x)
instance (x k:Nat):Decidable (zIV x k):=inferInstanceAs (Decidable (_∧_))
set_option maxRecDepth 100000 in
theorem zIW:((wg 256).all fun b=>decide (zIV b ((zIU[b]?).getD 0).toNat))=true:=by kernel_rfl
theorem zIX {b:Nat} (h:b < 256):zIV b ((zIU[b]?).getD 0).toNat:=JE (List.all_eq_true.1 zIW b (List.mem_range.2 h))
theorem zIY {x k:Nat} (h:zIV (x / 256) k) (h2:256≤x):zIV x (8+k):=by
 obtain ⟨b,a⟩:=h
 have c:=a (by omega)
 refine ⟨?_,fun _=>⟨by omega,?_⟩⟩
 ·rw [Nat.pow_add];omega
 ·rw [show 8+k - 1=8+(k - 1) by omega,Nat.pow_add];omega
theorem zIZ {b:Nat} (t:ByteArray) (e:t=zIU):Value.int .i64 (IntKind.i64.wrap (IntKind.i64.wrap (0+8)+IntKind.i64.wrap (znJ t b)))=Value.int .i64 ((8+((zIU[b]?).getD 0).toNat:Nat):Int):=by
 subst e
 have:=UInt8.toNat_lt ((zIU[b]?).getD 0)
 rw [show znJ zIU b=(((zIU[b]?).getD 0).toNat:Int) from rfl,zjz (n:=0+8) (by omega),zjz (n:=(((zIU[b]?).getD 0).toNat:Int)) (by omega),zjz (by omega)]
 congr 1
theorem zI0 {b:Nat} (t:ByteArray) (e:t=zIU):Value.int .i64 (IntKind.i64.wrap (0+IntKind.i64.wrap (znJ t b)))=Value.int .i64 ((((zIU[b]?).getD 0).toNat:Nat):Int):=by
 subst e
 have:=UInt8.toNat_lt ((zIU[b]?).getD 0)
 rw [show znJ zIU b=(((zIU[b]?).getD 0).toNat:Int) from rfl,zjz (n:=(((zIU[b]?).getD 0).toNat:Int)) (by omega),Int.zero_add,zjz (by omega)]
theorem zI1 (x:Nat) (h:Hp) (e:x < 65536):Ct jV 327 [.int .u64 x] h fun v h'=>(∃ k:Nat,v=.int .i64 k∧zIV x k)∧h'=h:=by
 refine Ct.forget ?_
 refine zdn (fun A W=>by simp) Tryz.func327 rfl rfl (by simp) fun W0=>?_
 refine Wk ?_
 refine zc9 rfl (fun a=>?_) (fun a=>?_)
 ·have:=JE a;omega
 refine Wk ?_
 refine zc9 rfl (fun a=>?_) (fun a=>?_)
 ·have:=JE a;omega
 refine Wk ?_
 refine zc9 rfl (fun a=>?_) (fun a=>?_)
 ·have a:=JE a
  have c:x / 256 < 256:=by omega
  have d:(x:Int).fdiv (2 ^ min (Int.toNat 8) 64)=((x / 256:Nat):Int):=by
   rw [show (2:Int) ^ min (Int.toNat 8) 64=((256:Nat):Int) by decide,Int.fdiv_eq_ediv_of_nonneg _ (by decide)];rfl
  have b:IntKind.u8.wrap ((x / 256:Nat):Int)=((x / 256:Nat):Int):=by show (((x / 256:Nat)):Int) % 256=_;omega
  repeat' first|refine Wa ?_|(simp only [go_sem,jq,jj,jy,jv,jk,jx,d,b];try rfl)|refine Wb ?_|fail
  refine ⟨by decide,?_⟩
  repeat' first|refine Wa ?_|(simp only [go_sem,jq,jj,jy,jv,jk,jx,d,b];try rfl)|refine Wb ?_|fail
  refine ⟨Nat.lt_of_lt_of_eq c (by kernel_rfl),?_⟩
  repeat' first|refine Wa ?_|(simp only [go_sem,jq,jj,jy,jv,jk,jx,d,b];try rfl)|refine Wb ?_|fail
  refine ⟨8+((zIU[x / 256]?).getD 0).toNat,?_,zIY (zIX c) (by omega)⟩
  exact zIZ _ (by kernel_rfl)
 ·have a:=JF a
  have c:x < 256:=by omega
  have b:IntKind.u8.wrap (x:Int)=(x:Int):=by show (x:Int) % 256=_;omega
  repeat' first|refine Wa ?_|(simp only [go_sem,jq,jj,jy,jv,jk,jx,b];try rfl)|refine Wb ?_|fail
  refine ⟨Nat.lt_of_lt_of_eq c (by kernel_rfl),?_⟩
  repeat' first|refine Wa ?_|(simp only [go_sem,jq,jj,jy,jv,jk,jx,b];try rfl)|refine Wb ?_|fail
  refine ⟨((zIU[x]?).getD 0).toNat,?_,zIX c⟩
  exact zI0 _ (by kernel_rfl)
theorem zI2 (x:Nat) (h:Hp) (a:x < 65536):Ct jV 320 [.int .u64 x] h fun v h'=>(∃ k:Nat,v=.int .i64 k∧zIV x k)∧h'=h:=by
 refine Ct.forget ?_
 refine zdn (fun A W=>by simp) Tryz.func320 rfl rfl (by simp) fun W0=>?_
 refine Wk ?_
 refine zEe ?_
 refine Wk ?_
 refine zkr (zI1 x _ a) rfl ?_
 rintro v d c ⟨⟨k,rfl,b⟩,rfl⟩
 refine Wk ?_
 exact ⟨k,rfl,b⟩
end Go.Proofs.YtbkaaakphpbmiaaGreat
