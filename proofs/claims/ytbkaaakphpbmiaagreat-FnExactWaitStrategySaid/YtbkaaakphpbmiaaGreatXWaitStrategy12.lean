/- What functions of the given program compute, as contracts. -/
import Derived.Test.YtbkaaakphpbmiaaGreatSWaitStrategyx3
import Derived.Test.YtbkaaakphpbmiaaGreatXWaitStrategy10
import Derived.Test.YtbkaaakphpbmiaaGreatXWaitStrategy11
import Derived.Test.YtbkaaakphpbmiaaGreatXWaitStrategy7
import Derived.Test.YtbkaaakphpbmiaaGreatXWaitStrategy8
set_option linter.unusedVariables false
set_option linter.unusedSimpArgs false
set_option maxRecDepth 4000
open Nat renaming reduceAdd → jq, reduceMul → jj, reduceBEq → jy, reduceLeDiff → jv, reduceLT → jk, reduceEqDiff → jx, zero_add → jb, zero_mul → jA, zero_le → jC, sub_zero → qQ, add_zero → qJ, le_refl → qV, not_lt_zero → qE, lt_or_ge → wv, eq_zero_or_pos → we, add_sub_cancel → uW, sub_self → Je
open Bool renaming and_eq_true → jJ, not_eq_true' → jd, not_eq_false' → jf, false_ne_true → qa, and_eq_false_iff → qA, not_true → wj, and_true → wJ, or_false → wC
open Int renaming toNat_natCast → jW, natCast_nonneg → jY, toNat_zero → je
open Go.SL.Con renaming con → jK
open Option renaming isSome_some → jX, getD_some → jc, map_some → qq, bind_some → yf, isSome_none → yG
open List renaming length_append → jP, getD_eq_getElem?_getD → ja, length_singleton → jg, toList_toArray → jE, flatMap_append → jF, nil_append → jG, length_map → jH, take_succ_eq_append_getElem → qw, take_of_length_le → qy, getElem_mem → qd, mem_cons_of_mem → qg, map_append → qB, mem_cons_self → qC, take_length → qG, getElem_of_mem → qL, length_take → ww, flatMap_cons → wV, length_set → wc, take_append_drop → yk, append_assoc → yx, filter_append → yQ, append_nil → yJ, mem_or_eq_of_mem_set → yX, mem_singleton → ya, mem_append_right → yb, mem_of_mem_drop → yA, mem_of_mem_take → yB, getElem?_map → yC, eq_nil_of_length_eq_zero → uj, map_id → ux, length_filter_le → up, length_drop → ub, filter_cons_of_pos → uc, length → ud, flatMap_nil → uH, flatMap_eq_nil_iff → Jv, filter_cons_of_neg → Jk
open Go.SL.Hp renaming le_trans → jB, le_refl → wW, ins_ne → JJ
open Go.SL.Enc renaming ok → jD, mono → jL, enc → qx, size → wA, one → uD
open Go.SL.Foot renaming foot → qj, own → wX
open Go.Proofs.Tryz renaming prog → jV
namespace Go.Proofs.YtbkaaakphpbmiaaGreat
open Go Go.SL
set_option maxHeartbeats 1000000
theorem zLg (a:Sl DPart) (h:Hp) (d:a.Ok h) (j:a.l.length≤1048576):Ct jV 252 [a.val] h fun v h'=>∃ s:Sl DPart,v=s.val∧s.l=a.l∧s.Ok h'∧Mine h h' s:=by
 have b:=d.all (by decide)
 have k:(h.ldL a.val 3).isSome=true:=by rw [show h.ldL a.val 3=_ from b];rfl
 refine zdn (fun A W=>by simp) Tryz.func252 rfl rfl (by simp) fun W0=>?_
 repeat' first|refine Wa ?_|(simp only [go_sem,jq,jj,jy,jv,jk,jx,b,show h.ldL a.val 3=some (a.l.flatMap qx) from b,jX,jc];try rfl)|refine Wb ?_|fail
 refine ⟨by simp only [maxLen];omega,by omega,?_⟩
 repeat' first|refine Wa ?_|(simp only [go_sem,jq,jj,jy,jv,jk,jx,b,show h.ldL a.val 3=some (a.l.flatMap qx) from b,jX,jc];try rfl)|refine Wb ?_|fail
 refine ⟨fun u e=>by obtain ⟨x,_,c⟩:=List.mem_flatMap.1 e;exact uD x u c,by simp only [maxLen];omega,by omega,?_⟩
 refine zl7 1 a.l rfl rfl (jb _) rfl (by decide) (fun x c=>d.2.2.2.1 x c) h (wW _) (Mines.flat (fun _=>rfl) (fun _=>trivial)) fun s h' f g m i=>?_
 refine Wk ?_
 exact ⟨s,rfl,f,g,i⟩
theorem zLh (a:Sl DSurge) (h:Hp) (d:a.Ok h) (j:a.l.length≤1048576):Ct jV 191 [a.val] h fun v h'=>∃ s:Sl DSurge,v=s.val∧s.l=a.l∧s.Ok h'∧Mine h h' s:=by
 have b:=d.all (by decide)
 have k:(h.ldL a.val 3).isSome=true:=by rw [show h.ldL a.val 3=_ from b];rfl
 refine zdn (fun A W=>by simp) Tryz.func191 rfl rfl (by simp) fun W0=>?_
 repeat' first|refine Wa ?_|(simp only [go_sem,jq,jj,jy,jv,jk,jx,b,show h.ldL a.val 3=some (a.l.flatMap qx) from b,jX,jc];try rfl)|refine Wb ?_|fail
 refine ⟨by simp only [maxLen];omega,by omega,?_⟩
 repeat' first|refine Wa ?_|(simp only [go_sem,jq,jj,jy,jv,jk,jx,b,show h.ldL a.val 3=some (a.l.flatMap qx) from b,jX,jc];try rfl)|refine Wb ?_|fail
 refine ⟨fun u e=>by obtain ⟨x,_,c⟩:=List.mem_flatMap.1 e;exact uD x u c,by simp only [maxLen];omega,by omega,?_⟩
 refine zl7 1 a.l rfl rfl (jb _) rfl (by decide) (fun x c=>d.2.2.2.1 x c) h (wW _) (Mines.flat (fun _=>rfl) (fun _=>trivial)) fun s h' f g m i=>?_
 refine Wk ?_
 exact ⟨s,rfl,f,g,i⟩
theorem zLi (a:Sl DPoint) (h:Hp) (d:a.Ok h) (j:a.l.length≤1048576):Ct jV 197 [a.val] h fun v h'=>∃ s:Sl DPoint,v=s.val∧s.l=a.l∧s.Ok h'∧Mine h h' s:=by
 have b:=d.all (by decide)
 have k:(h.ldL a.val 2).isSome=true:=by rw [show h.ldL a.val 2=_ from b];rfl
 refine zdn (fun A W=>by simp) Tryz.func197 rfl rfl (by simp) fun W0=>?_
 repeat' first|refine Wa ?_|(simp only [go_sem,jq,jj,jy,jv,jk,jx,b,show h.ldL a.val 2=some (a.l.flatMap qx) from b,jX,jc];try rfl)|refine Wb ?_|fail
 refine ⟨by simp only [maxLen];omega,by omega,?_⟩
 repeat' first|refine Wa ?_|(simp only [go_sem,jq,jj,jy,jv,jk,jx,b,show h.ldL a.val 2=some (a.l.flatMap qx) from b,jX,jc];try rfl)|refine Wb ?_|fail
 refine ⟨fun u e=>by obtain ⟨x,_,c⟩:=List.mem_flatMap.1 e;exact uD x u c,by simp only [maxLen];omega,by omega,?_⟩
 refine zl7 1 a.l rfl rfl (jb _) rfl (by decide) (fun x c=>d.2.2.2.1 x c) h (wW _) (Mines.flat (fun _=>rfl) (fun _=>trivial)) fun s h' f g m i=>?_
 refine Wk ?_
 exact ⟨s,rfl,f,g,i⟩
theorem zLj (a:Sl DSegment) (h:Hp) (d:a.Ok h) (j:a.l.length≤1048576):Ct jV 198 [a.val] h fun v h'=>∃ s:Sl DSegment,v=s.val∧s.l=a.l∧s.Ok h'∧Mine h h' s:=by
 have b:=d.all (by decide)
 have k:(h.ldL a.val 5).isSome=true:=by rw [show h.ldL a.val 5=_ from b];rfl
 refine zdn (fun A W=>by simp) Tryz.func198 rfl rfl (by simp) fun W0=>?_
 repeat' first|refine Wa ?_|(simp only [go_sem,jq,jj,jy,jv,jk,jx,b,show h.ldL a.val 5=some (a.l.flatMap qx) from b,jX,jc];try rfl)|refine Wb ?_|fail
 refine ⟨by simp only [maxLen];omega,by omega,?_⟩
 repeat' first|refine Wa ?_|(simp only [go_sem,jq,jj,jy,jv,jk,jx,b,show h.ldL a.val 5=some (a.l.flatMap qx) from b,jX,jc];try rfl)|refine Wb ?_|fail
 refine ⟨fun u e=>by obtain ⟨x,_,c⟩:=List.mem_flatMap.1 e;exact uD x u c,by simp only [maxLen];omega,by omega,?_⟩
 refine zl7 1 a.l rfl rfl (jb _) rfl (by decide) (fun x c=>d.2.2.2.1 x c) h (wW _) (Mines.flat (fun _=>rfl) (fun _=>trivial)) fun s h' f g m i=>?_
 refine Wk ?_
 exact ⟨s,rfl,f,g,i⟩
theorem zLk (a:Sl DShip) (h:Hp) (d:a.Ok h) (j:a.l.length≤1048576):Ct jV 199 [a.val] h fun v h'=>∃ s:Sl DShip,v=s.val∧s.l=a.l∧s.Ok h'∧Mine h h' s:=by
 have b:=d.all (by decide)
 have k:(h.ldL a.val 6).isSome=true:=by rw [show h.ldL a.val 6=_ from b];rfl
 refine zdn (fun A W=>by simp) Tryz.func199 rfl rfl (by simp) fun W0=>?_
 repeat' first|refine Wa ?_|(simp only [go_sem,jq,jj,jy,jv,jk,jx,b,show h.ldL a.val 6=some (a.l.flatMap qx) from b,jX,jc];try rfl)|refine Wb ?_|fail
 refine ⟨by simp only [maxLen];omega,by omega,?_⟩
 repeat' first|refine Wa ?_|(simp only [go_sem,jq,jj,jy,jv,jk,jx,b,show h.ldL a.val 6=some (a.l.flatMap qx) from b,jX,jc];try rfl)|refine Wb ?_|fail
 refine ⟨fun u e=>by obtain ⟨x,_,c⟩:=List.mem_flatMap.1 e;exact uD x u c,by simp only [maxLen];omega,by omega,?_⟩
 refine zl7 1 a.l rfl rfl (jb _) rfl (by decide) (fun x c=>d.2.2.2.1 x c) h (wW _) (Mines.flat (fun _=>rfl) (fun _=>trivial)) fun s h' f g m i=>?_
 refine Wk ?_
 exact ⟨s,rfl,f,g,i⟩
theorem zLl (c:DTide) (h:Hp) (j:jD h c) (k:c.parts.l.length≤1048576):Ct jV 190 [.agg #[.int .i64 c.mean,c.parts.val]] h fun v h'=>∃ d:DTide,v=.agg #[.int .i64 d.mean,d.parts.val]∧jK d=jK c∧jD h' d∧Mine h h' d:=by
 obtain ⟨b,a⟩:=j
 refine zdn (fun A W=>by simp) Tryz.func190 rfl rfl (by simp) fun W0=>?_
 refine Wk ?_
 refine zz5 rfl ?_
 refine U_t [0,2,1,3] rfl ?_
 refine Evs ?_
 refine U_1 4 0 [1,0] rfl rfl ?_
 refine Evs ?_
 refine zkr (zLg c.parts _ a k) rfl ?_
 rintro v n m ⟨g,rfl,i,f,e⟩
 refine Evs ?_
 refine U_1 5 0 [] rfl rfl ?_
 refine Evs ?_
 refine U_1 6 0 [] rfl rfl ?_
 refine Evs ?_
 refine U_d ?_
 refine Wk ?_
 exact ⟨⟨c.mean,g⟩,rfl,by rw [zk6,zk6,zkz,zkz,i],⟨b,f⟩,News.mine (e.1) e.news⟩
theorem zLm (c:DForecast) (h:Hp) (r:jD h c) (s:c.tide.parts.l.length≤1048576) (m:c.surges.l.length≤1048576):Ct jV 196 [.agg #[.int .i64 c.tide.mean,c.tide.parts.val,c.surges.val]] h fun v h'=>∃ d:DForecast,v=.agg #[.int .i64 d.tide.mean,d.tide.parts.val,d.surges.val]∧jK d=jK c∧jD h' d∧Mine h h' d:=by
 obtain ⟨e,a⟩:=r
 refine zdn (fun A W=>by simp) Tryz.func196 rfl rfl (by simp) fun W0=>?_
 refine Wk ?_
 refine zz5 rfl ?_
 refine U_t [0,3,1,4] rfl ?_
 refine Evs ?_
 refine U_1 2 0 [4,3] rfl rfl ?_
 refine Evs ?_
 refine zkr (zLl c.tide _ e s) rfl ?_
 rintro v t f ⟨n,rfl,o,g,i⟩
 refine Evs ?_
 refine U_1 5 0 [] rfl rfl ?_
 refine Evs ?_
 refine zkr (zLh c.surges _ (a.mono f) m) rfl ?_
 rintro v u b ⟨p,rfl,q,k,j⟩
 refine Evs ?_
 refine U_1 6 0 [] rfl rfl ?_
 refine Evs ?_
 refine U_1 7 0 [] rfl rfl ?_
 refine Evs ?_
 refine U_d ?_
 refine Wk ?_
 exact ⟨⟨n,p⟩,rfl,by rw [zlb,zlb,o,zkz,zkz,q],⟨jL b g,k⟩,News.mine ⟨(Mine.on b g i).1,j.1⟩ (i.news.append f b j.news)⟩
structure Lens (c:DHarbour):Prop where
 pa:c.forecast.tide.parts.l.length≤1048576
 su:c.forecast.surges.l.length≤1048576
 po:c.chart.points.l.length≤1048576
 se:c.chart.segments.l.length≤1048576
 fl:c.fleet.l.length≤1048576
 mo:c.crew.moves.l.length≤1048576
theorem zLn {h h0 l h2 k e:Hp} {c:DHarbour} {f:DForecast} {p:Sl DPoint} {g:Sl DSegment} {s:Sl DShip} {m:Sl Int} (H:jD h c) (n:h.le h0) (o:h0.le l) (j:l.le h2) (d:h2.le k) (a:k.le e) (q:jD h0 f) (r:p.Ok l) (J:g.Ok h2) (t:s.Ok k) (K:m.Ok e)
  (u:Mine h h0 f) (w:Mine h0 l p) (x:Mine l h2 g) (y:Mine h2 k s) (z:Mine k e m):jD e (DHarbour.mk f ⟨p,g⟩ s c.regime ⟨c.crew.tugs,c.crew.pilots,c.crew.rest,m⟩)∧Mine h e (DHarbour.mk f ⟨p,g⟩ s c.regime ⟨c.crew.tugs,c.crew.pilots,c.crew.rest,m⟩):=by
 obtain ⟨_,_,_,i,⟨M,N,O,_⟩⟩:=H
 have D:jD h2 (DChart.mk p g):=⟨r.mono j,J⟩
 have F:Mine h0 h2 (DChart.mk p g):=News.mine ⟨(Mine.on j r w).1,x.1⟩ (w.news.append o j x.news)
 have Q:jD e (DCrew.mk c.crew.tugs c.crew.pilots c.crew.rest m):=⟨M,N,O,K⟩
 have G:Mine k e (DCrew.mk c.crew.tugs c.crew.pilots c.crew.rest m):=News.mine z.1 z.news
 have b:=jB o j
 exact ⟨⟨jL (jB (jB b d) a) q,jL (jB d a) D,t.mono a,i,Q⟩,News.mine ⟨(Mine.on (jB (jB b d) a) q u).1,(Mine.on (jB d a) D F).1,(Mine.on a t y).1,G.1⟩ (((u.news.append n b F.news).append (jB n b) d y.news).append (jB (jB n b) d) a G.news)⟩
set_option maxRecDepth 30000 in
theorem zLo (c:DHarbour) (h:Hp) (D:jD h c) (k:Lens c):Ct jV 116 [.agg #[.int .i64 c.forecast.tide.mean,c.forecast.tide.parts.val,c.forecast.surges.val,c.chart.points.val,c.chart.segments.val,c.fleet.val,.int .i64 c.regime.gap,.bool c.regime.noMeet,.int .i64 c.crew.tugs,.int .i64 c.crew.pilots,.int .i64 c.crew.rest,c.crew.moves.val]] h fun v h'=>∃ d:DHarbour,v=.agg #[.int .i64 d.forecast.tide.mean,d.forecast.tide.parts.val,d.forecast.surges.val,d.chart.points.val,d.chart.segments.val,d.fleet.val,.int .i64 d.regime.gap,.bool d.regime.noMeet,.int .i64 d.crew.tugs,.int .i64 d.crew.pilots,.int .i64 d.crew.rest,d.crew.moves.val]∧jK d=jK c∧jD h' d∧Mine h h' d:=by
 have F:=D
 obtain ⟨e,⟨i,f⟩,l,r,⟨o1,o2,o3,b⟩⟩:=D
 refine zdn (fun A W=>by simp) Tryz.func116 rfl rfl (by simp) fun W0=>?_
 refine Wk ?_
 refine zkr (zLm c.forecast _ e k.pa k.su) rfl ?_
 rintro v ae a ⟨G,rfl,H,s,J⟩
 refine Wk ?_
 refine zz5 rfl ?_
 refine U_t [0,4,1,5,2,6] rfl ?_
 refine Evs ?_
 refine U_1 3 0 [6,5,4] rfl rfl ?_
 refine Evs ?_
 refine zkr (zLi c.chart.points _ (i.mono a) k.po) rfl ?_
 rintro v ag g ⟨K,rfl,M,t,N⟩
 refine Evs ?_
 refine U_1 7 0 [] rfl rfl ?_
 refine Evs ?_
 refine zkr (zLj c.chart.segments _ (f.mono (jB a g)) k.se) rfl ?_
 rintro v ah j ⟨O,rfl,Q,u,R⟩
 refine Evs ?_
 refine U_1 8 0 [] rfl rfl ?_
 refine Evs ?_
 refine U_t [9] rfl ?_
 refine Evs ?_
 refine U_1 10 0 [] rfl rfl ?_
 refine Evs ?_
 refine U_d ?_
 refine Wk ?_
 refine zkr (zLk c.fleet _ (l.mono (jB (jB a g) j)) k.fl) rfl ?_
 rintro v X m ⟨Y,rfl,Z,w,aa⟩
 refine Wk ?_
 refine zkr (zF8 c.crew.moves _ (b.mono (jB (jB (jB a g) j) m)) k.mo) rfl ?_
 rintro v o y ⟨n,rfl,p,q,ab⟩
 refine Wk ?_
 have z:n.Ok o:=q.ok (by decide) fun x hx=>by rw [p] at hx;exact b.2.2.2.1 x hx
 have ac:Mine X o n:=zJU q ab
 obtain ⟨kk,mm⟩:=zLn F a g j m y s t u w z J N R aa ac
 exact ⟨⟨G,⟨K,O⟩,Y,c.regime,⟨c.crew.tugs,c.crew.pilots,c.crew.rest,n⟩⟩,rfl,by rw [zlq,zlq,zlj,zlj,zk1,zk1,H];simp only [zkz,M,Q,Z,con_ints,p],kk,mm⟩
def zLp (s:DSurge) (lo hi:Int):DSurge:=⟨s.src,max s.low lo,min s.high hi⟩
theorem zLq (s:DSurge) (a b:Int) (h:Hp):Ct jV 189 [.agg #[.int .i64 s.src,.int .i64 s.low,.int .i64 s.high],.int .i64 a,.int .i64 b] h fun v h'=>v=.agg #[.int .i64 (zLp s a b).src,.int .i64 (zLp s a b).low,.int .i64 (zLp s a b).high]∧h'=h:=by
 refine zdn (fun A W=>by simp) Tryz.func189 rfl rfl (by simp) fun W0=>?_
 exact Wk0
theorem zLr (c:DHarbour) (f:DForecast) (h:Hp):Ct jV 113 [c.v,f.v] h fun v h'=>v=({ c with forecast:=f }:DHarbour).v∧h'=h:=by
 refine zdn (fun A W=>by simp) Tryz.func113 rfl rfl (by simp) fun W0=>?_
 exact Wk0
theorem zLs (c:DTide) (h:Hp) (o:jD h c) (s:c.parts.l.length≤1048576):Ct jV 188 [.agg #[.int .i64 c.mean,c.parts.val]] h fun v h'=>∃ d:DTide,v=.agg #[.int .i64 d.mean,d.parts.val]∧jK d=jK c∧jD h' d∧h.le h':=by
 obtain ⟨e,b⟩:=o
 have a:=b.all (by decide)
 have a:h.ldL c.parts.val 3=some (c.parts.l.flatMap qx):=a
 refine zdn (fun A W=>by simp) Tryz.func188 rfl rfl (by simp) fun W0=>?_
 refine Wk ?_
 refine zz5 rfl ?_
 refine U_t [0,3,1,4] rfl ?_
 simp only [go_sem,jq,jj,jy,jv,jk,jx,a,jX,jc,JA,jb,jG]
 refine U_1 2 0 [4,1,3,0] rfl rfl ?_
 simp only [go_sem,jq,jj,jy,jv,jk,jx,a,jX,jc,JA,jb,jG]
 refine U_1 5 0 [1,0] rfl rfl ?_
 simp only [go_sem,jq,jj,jy,jv,jk,jx,a,jX,jc,JA,jb,jG]
 refine ⟨fun u p=>by obtain ⟨x,_,f⟩:=List.mem_flatMap.1 p;exact uD x u f,by simp only [maxLen];omega,by omega,?_⟩
 try simp only [go_sem,jq,jj,jy,jv,jk,jx]
 refine zFO 3 c.parts.l rfl rfl rfl rfl fun g m i n q j r=>?_
 try simp only [go_sem,jq,jj,jy,jv,jk,jx]
 refine U_1 6 0 [] rfl rfl ?_
 simp only [go_sem,jq,jj,jy,jv,jk,jx,a,jX,jc,JA,jb,jG]
 refine U_1 7 0 [] rfl rfl ?_
 simp only [go_sem,jq,jj,jy,jv,jk,jx,a,jX,jc,JA,jb,jG]
 refine U_d ?_
 refine Wk ?_
 have k:g.Ok m:=n.ok (by decide) fun x f=>by rw [i] at f;exact jL j (b.2.2.2.1 x f)
 exact ⟨⟨c.mean,g⟩,rfl,by rw [zk6,zk6,zkz,zkz,i],⟨e,k⟩,j⟩
def revA (l:List DSurge) (m lo hi:Int):List DSurge:=(if (l.getD (zCF l m) dS).src=m then l.take (zCF l m) else l.take (zCF l m+1)) ++ [⟨m,max (l.getD (zCF l m) dS).low lo,min (l.getD (zCF l m) dS).high hi⟩] ++ l.drop (zCF l m+1)
def revB (l:List DSurge) (m lo hi:Int):List DSurge:=l.filter (fun s=>decide (s.src < m)) ++ [⟨m,max (l.getD (zCF l m) dS).low lo,min (l.getD (zCF l m) dS).high hi⟩] ++ l.filter (fun s=>decide (m < s.src))
theorem zLt {l:List DSurge} {m:Int}:∀ {k:Nat},k≤l.length→∀ j (b:j < l.length),zCE l m k < j→j < k→m < l[j].src
 | 0,_,j,b,_,h2=>by omega
 | k+1,e,j,b,c,h2=>by
  have a:k < l.length:=by omega
  by_cases h:l[k].src≤m
  ·rw [zCI a h] at c;omega
  ·rw [zCJ a h] at c
   rcases wv j k with d|d
   ·exact zLt (by omega) j b c d
   ·obtain rfl:j=k:=by omega
    omega
theorem zLu {l:List DSurge} {m:Int}:∀ {k:Nat},k≤l.length→(∀ (h:0 < l.length),l[0].src≤m)→∀ (b:zCE l m k < l.length),0 < k→l[zCE l m k].src≤m
 | 0,_,_,_,h=>by omega
 | k+1,d,h0,b,_=>by
  have a:k < l.length:=by omega
  by_cases h:l[k].src≤m
  ·simp only [zCI a h];exact h
  ·simp only [zCJ a h] at b ⊢
   rcases we k with rfl|c
   ·exact absurd (h0 a) h
   ·exact zLu (by omega) h0 b c
theorem zLv {l:List DSurge} {m g b:Int} (n:0 < l.length) (h0:l[0].src≤m) (o:∀ i j (b:i < l.length) (c:j < l.length),i < j→l[i].src < l[j].src):revA l m g b=revB l m g b:=by
 have d:zCF l m < l.length:=zCH n
 have z:l[zCF l m].src≤m:=zLu (qV _) (fun _=>h0) d n
 have p:∀ j (c:j < l.length),zCF l m < j→m < l[j].src:=fun j c h=>zLt (qV _) j c h c
 rw [revA,revB]
 generalize D:zCF l m=k at *
 have t:l.getD k dS=l[k]:=by simp [ja,d]
 rw [t]
 have f:l=l.take k ++ [l[k]] ++ l.drop (k+1):=by
  rw [yx,List.singleton_append,List.getElem_cons_drop,yk]
 have q:∀ s ∈ l.take k,s.src < m:=fun s a=>by
  obtain ⟨i,b,rfl⟩:=qL a
  rw [ww] at b
  rw [List.getElem_take]
  have:=o i k (by omega) d (by omega)
  omega
 have r:∀ s ∈ l.drop (k+1),m < s.src:=fun s a=>by
  obtain ⟨i,b,rfl⟩:=qL a
  rw [ub] at b
  rw [List.getElem_drop]
  exact p _ (by omega) (by omega)
 have u:(l.drop (k+1)).filter (fun s=>decide (s.src < m))=[]:=List.filter_eq_nil_iff.2 fun s a=>by have:=r s a;rw [JD];omega
 have w:(l.take k).filter (fun s=>decide (m < s.src))=[]:=List.filter_eq_nil_iff.2 fun s a=>by have:=q s a;rw [JD];omega
 have x:l.filter (fun s=>decide (s.src < m))=l.take k ++ (if l[k].src=m then [] else [l[k]]):=by
  conv=>lhs;rw [f]
  rw [yQ,yQ,List.filter_eq_self.2 (fun s a=>JG (q s a)),u,yJ]
  by_cases e:l[k].src=m
  ·rw [if_pos e,Jk (by rw [JD];omega)];rfl
  ·rw [if_neg e,uc (by rw [JD];omega)];rfl
 have y:l.filter (fun s=>decide (m < s.src))=l.drop (k+1):=by
  conv=>lhs;rw [f]
  rw [yQ,yQ,w,List.filter_eq_self.2 (fun s a=>JG (r s a)),Jk (by rw [JD];omega)]
  rfl
 rw [x,y]
 by_cases e:l[k].src=m
 ·rw [if_pos e,if_pos e,yJ]
 ·rw [if_neg e,if_neg e,qw d]
def zLw (f:PForecast) (m lo hi:Int):Option PForecast:=if zBb f=true∧0≤m∧m≤2880 then (if zBb { f with surges:=revA f.surges m lo hi }=true then some { f with surges:=revA f.surges m lo hi } else none) else none
theorem zLI (a:Sl DSurge) (h:Hp) (c:a.Ok h) (j:a.l.length≤1048576):Ct jV 191 [a.val] h fun v h'=>∃ s:Sl DSurge,v=s.val∧s.l=a.l∧RowAt 125 h' s∧∀ g,s.a=some ⟨g,0,none⟩→h g=none:=by
 have b:=c.all (by decide)
 have k:(h.ldL a.val 3).isSome=true:=by rw [show h.ldL a.val 3=_ from b];rfl
 refine zdn (fun A W=>by simp) Tryz.func191 rfl rfl (by simp) fun W0=>?_
 repeat' first|refine Wa ?_|(simp only [go_sem,jq,jj,jy,jv,jk,jx,b,show h.ldL a.val 3=some (a.l.flatMap qx) from b,jX,jc];try rfl)|refine Wb ?_|fail
 refine ⟨by simp only [maxLen];omega,by omega,?_⟩
 repeat' first|refine Wa ?_|(simp only [go_sem,jq,jj,jy,jv,jk,jx,b,show h.ldL a.val 3=some (a.l.flatMap qx) from b,jX,jc];try rfl)|refine Wb ?_|fail
 refine ⟨fun u d=>by obtain ⟨x,_,e⟩:=List.mem_flatMap.1 d;exact uD x u e,by simp only [maxLen];omega,by omega,?_⟩
 refine zD5 1 a.l rfl rfl (jb _) rfl fun s h' f R i m n=>?_
 refine Wk ?_
 exact ⟨s,rfl,f,R,i⟩
theorem zLJ {e:TypeId} {h h':Hp} {s:Sl DSurge} (H:RowAt e h' s) (n:∀ g,s.a=some ⟨g,0,none⟩→h g=none):Mine h h' s:=by
 by_cases d:s.l=[]
 ·rcases s with ⟨a,c,l⟩
  simp only at d;subst d;exact Mine.nil
 ·obtain ⟨r,h2,⟨f,j,t⟩|⟨g,cur,f,o,k,q⟩⟩:=H
  ·exact (d j).elim
  ·have p:s.l.flatMap (qj (α:=DSurge))=[]:=by rw [Jv];exact fun x _=>rfl
   have m:qj s=[g]:=by
    rw [show qj s=_ from Sl.foot_ne d,p]
    simp [Sl.blkOf,f]
   refine ⟨fun _=>⟨⟨g,cur,e,f,o,k⟩,fun x _=>trivial⟩,fun b i=>?_,by rw [m];simp⟩
   rw [m,ya] at i
   subst i;exact n _ f
theorem zLK {h h':Hp}:Mine h h' (⟨⟨0,⟨none,0,[]⟩⟩,⟨none,0,[]⟩⟩:DForecast):=Mine.flat rfl ⟨(Mine.nil (α:=DPart) (h:=h) (h':=h') (a:=none) (c:=0)).1,(Mine.nil (α:=DSurge) (h:=h) (h':=h') (a:=none) (c:=0)).1⟩
set_option maxRecDepth 100000 in
theorem zLL (f:DForecast) (m lo hi:Int) (h:Hp) (j:jD h f) (hm:I64 m) (b8:I64 lo) (b9:I64 hi):Ct jV 114 [f.v,.int .i64 m,.int .i64 lo,.int .i64 hi] h fun v h'=>∃ g:DForecast,v=.tuple #[g.v,.bool (zLw (jK f) m lo hi).isSome]∧jK g=(zLw (jK f) m lo hi).getD ⟨⟨0,[]⟩,[]⟩∧jD h' g∧Mine h h' g:=by
 refine zdn (fun A W=>by simp) Tryz.func114 rfl rfl (by simp) fun W0=>?_
 repeat' first|refine Wa ?_|refine zhF (fun _=>zBe f _ j) ?_|refine zhF (fun _=>zAC _ _) ?_|(simp only [go_sem,jq,jj,jy,jv,jk,jx];try rfl)|refine Wb ?_|fail
 refine zc9 rfl (fun hc=>?_) (fun hc=>?_)
 ·have hn:¬ (zBb (jK f)=true∧0≤m∧m≤2880):=fun ⟨N,h2,h3⟩=>by
   rw [N] at hc;simp [h2,h3] at hc
  have hR:zLw (jK f) m lo hi=none:=by rw [zLw,if_neg hn]
  refine Wk ?_
  exact ⟨⟨⟨0,⟨none,0,[]⟩⟩,⟨none,0,[]⟩⟩,by rw [hR];rfl,by rw [hR];rfl,⟨⟨by show I64 0;unfold I64;omega,znE⟩,znE⟩,zLK⟩
 have ag:zBb (jK f)=true:=by
  cases h9:zBb (jK f) with
  | true=>rfl
  | false=>rw [h9] at hc;simp at hc
 have ap:0≤m∧m≤2880:=by
  rw [ag] at hc;simp at hc;omega
 have hn:0 < f.surges.l.length:=by have:=zCK ag;rwa [zCL] at this
 obtain ⟨k,F⟩:∃ k,zCF f.surges.l m=k:=⟨_,rfl⟩
 have b:k < f.surges.l.length:=by rw [← F];exact zCH hn
 have D:(k:Int) < f.surges.l.length:=by omega
 have ca:=j.2.max
 have hb:f.tide.parts.l.length≤4∧f.surges.l.length≤6:=by
  have h9:=ag
  simp only [zBb,zA4,In,jJ,JD] at h9
  rw [zCL,show (jK f).tide.parts=f.tide.parts.l from zA5 _] at h9
  omega
 have r:IntKind.i64.wrap ((k:Int)+1)=((k+1:Nat):Int):=by rw [zjz (by omega)];omega
 have n:k+1≤f.surges.cap:=by have:=j.2.1;omega
 have d:((k+1:Nat):Int)≤f.surges.cap:=by omega
 have x:k+1≤f.surges.l.length:=b
 repeat' first|refine Wa ?_|refine zhF (fun _=>zCQ f m _ j) ?_|(simp only [go_sem,jq,jj,jy,jv,jk,jx];try rfl)|refine Wb ?_|fail
 repeat' first|refine Wa ?_|(simp only [go_sem,jq,jj,jy,jv,jk,jx,F,je,jA,zza,zzb,zk9 j.2 b,j.2.some b,b,D,r,x,n,d,jW,jY,ite_self,qQ,Jg,JA,JB,JC];try rfl)|refine Wb ?_|fail
 refine zFS (ι:=(DTide × Sl DSurge) × (Hp × Hp)) (fun i=>⟨[(1,true,.c (.v (.int .i64 m))),(2,true,.c (.v (.int .i64 lo))),(3,true,.c (.v (.int .i64 hi))),(4,true,.c (.p 0 0)),(8,true,.c (.p 1 0)),(10,true,.c (.v (.int .i64 k))),(11,true,.c (.p 2 0)),(12,true,.c (.p 3 0))],[(0,.box 53 [.v (.int .i64 f.tide.mean),.v f.tide.parts.val,.v f.surges.val]),(1,.box 53 [.v (.int .i64 0),.v (.slice none 0 0),.v (.slice none 0 0)]),(2,.box 125 [.v (.int .i64 f.surges.l[k].src),.v (.int .i64 f.surges.l[k].low),.v (.int .i64 f.surges.l[k].high)]),(3,.box 53 [.v (.int .i64 i.1.1.mean),.v i.1.1.parts.val,.v i.1.2.val])],i.2.2,4⟩)
  (fun i=>h.le i.2.1∧i.2.1.le i.2.2∧jK i.1.1=jK f.tide∧jD i.2.1 i.1.1∧Mine h i.2.1 i.1.1∧i.1.2.l=(f.surges.to (k+1)).l∧RowAt 125 i.2.2 i.1.2∧∀ g,i.1.2.a=some ⟨g,0,none⟩→i.2.1 g=none) ?_ ?_
 ·refine zz5 rfl ?_
  refine U_t [0,3,5,1,4,6] rfl ?_
  simp only [go_sem,jq,jj,jy,jv,jk,jx,F,je,jA,zza,zzb,zk9 j.2 b,j.2.some b,b,D,r,x,n,d,jW,jY,ite_self,qQ,Jg,JA,JB,JC]
  refine U_m 2 [7,10] ⟨?_,?_,?_,trivial⟩
  ·refine U_b 2 0 [6,4,3] rfl rfl ?_
   simp only [go_sem,jq,jj,jy,jv,jk,jx,F,je,jA,zza,zzb,zk9 j.2 b,j.2.some b,b,D,r,x,n,d,jW,jY,ite_self,qQ,Jg,JA,JB,JC]
   refine zkr (zLl f.tide _ j.1 (by have:=hb.1;omega)) rfl ?_
   rintro v N G ⟨t,rfl,et,M,Z⟩
   simp only [go_sem,jq,jj,jy,jv,jk,jx,F,je,jA,zza,zzb,zk9 j.2 b,j.2.some b,b,D,r,x,n,d,jW,jY,ite_self,qQ,Jg,JA,JB,JC]
   refine U_m 7 [10] ⟨?_,?_,trivial⟩
   ·refine U_b 7 0 [] rfl rfl ?_
    simp only [go_sem,jq,jj,jy,jv,jk,jx,F,je,jA,zza,zzb,zk9 j.2 b,j.2.some b,b,D,r,x,n,d,jW,jY,ite_self,qQ,Jg,JA,JB,JC]
    try rw [zzc (show k+1≤f.surges.l.length by omega)]
    try simp only [go_sem,jq,jj,jy,jv,jk,jx,F,je,jA,zza,zzb,zk9 j.2 b,j.2.some b,b,D,r,x,n,d,jW,jY,ite_self,qQ,Jg,JA,JB,JC]
    refine U_m 8 [10] ⟨?_,?_,trivial⟩
    ·refine U_b 8 0 [] rfl rfl ?_
     simp only [go_sem,jq,jj,jy,jv,jk,jx,F,je,jA,zza,zzb,zk9 j.2 b,j.2.some b,b,D,r,x,n,d,jW,jY,ite_self,qQ,Jg,JA,JB,JC]
     refine zkr (zLI (f.surges.to (k+1)) _ ((Sl.to_ok j.2 (k+1)).mono G) (by rw [Sl.to_len b];have:=hb.2;omega)) rfl ?_
     rintro v h2 J ⟨H,rfl,Q,R,X⟩
     refine Evs ?_
     refine U_m 9 [10] ⟨?_,?_,trivial⟩
     ·refine U_b 9 0 [] rfl rfl ?_
      simp only [go_sem,jq,jj,jy,jv,jk,jx,F,je,jA,zza,zzb,zk9 j.2 b,j.2.some b,b,D,r,x,n,d,jW,jY,ite_self,qQ,Jg,JA,JB,JC]
      refine U_1 10 0 [] rfl rfl ?_
      simp only [go_sem,jq,jj,jy,jv,jk,jx,F,je,jA,zza,zzb,zk9 j.2 b,j.2.some b,b,D,r,x,n,d,jW,jY,ite_self,qQ,Jg,JA,JB,JC]
      refine U_1 11 0 [] rfl rfl ?_
      simp only [go_sem,jq,jj,jy,jv,jk,jx,F,je,jA,zza,zzb,zk9 j.2 b,j.2.some b,b,D,r,x,n,d,jW,jY,ite_self,qQ,Jg,JA,JB,JC]
      refine U_d ?_
      exact ⟨((t,H),(N,h2)),[0,1,2,3],⟨G,J,et,M,Z,Q,R,X⟩,by repeat' first|exact rfl|exact trivial|assumption|decide|refine And.intro ?_ ?_⟩
     ·refine U_b 10 0 [] rfl rfl ?_
      simp only [go_sem,jq,jj,jy,jv,jk,jx,F,je,jA,zza,zzb,zk9 j.2 b,j.2.some b,b,D,r,x,n,d,jW,jY,ite_self,qQ,Jg,JA,JB,JC]
      refine U_1 9 0 [] rfl rfl ?_
      simp only [go_sem,jq,jj,jy,jv,jk,jx,F,je,jA,zza,zzb,zk9 j.2 b,j.2.some b,b,D,r,x,n,d,jW,jY,ite_self,qQ,Jg,JA,JB,JC]
      refine U_1 11 0 [] rfl rfl ?_
      simp only [go_sem,jq,jj,jy,jv,jk,jx,F,je,jA,zza,zzb,zk9 j.2 b,j.2.some b,b,D,r,x,n,d,jW,jY,ite_self,qQ,Jg,JA,JB,JC]
      refine U_d ?_
      exact ⟨((t,H),(N,h2)),[0,1,2,3],⟨G,J,et,M,Z,Q,R,X⟩,by repeat' first|exact rfl|exact trivial|assumption|decide|refine And.intro ?_ ?_⟩
    ·refine U_b 10 0 [] rfl rfl ?_
     simp only [go_sem,jq,jj,jy,jv,jk,jx,F,je,jA,zza,zzb,zk9 j.2 b,j.2.some b,b,D,r,x,n,d,jW,jY,ite_self,qQ,Jg,JA,JB,JC]
     refine U_1 8 0 [] rfl rfl ?_
     simp only [go_sem,jq,jj,jy,jv,jk,jx,F,je,jA,zza,zzb,zk9 j.2 b,j.2.some b,b,D,r,x,n,d,jW,jY,ite_self,qQ,Jg,JA,JB,JC]
     refine zkr (zLI (f.surges.to (k+1)) _ ((Sl.to_ok j.2 (k+1)).mono G) (by rw [Sl.to_len b];have:=hb.2;omega)) rfl ?_
     rintro v h2 J ⟨H,rfl,Q,R,X⟩
     refine Evs ?_
     refine U_1 9 0 [] rfl rfl ?_
     simp only [go_sem,jq,jj,jy,jv,jk,jx,F,je,jA,zza,zzb,zk9 j.2 b,j.2.some b,b,D,r,x,n,d,jW,jY,ite_self,qQ,Jg,JA,JB,JC]
     refine U_1 11 0 [] rfl rfl ?_
     simp only [go_sem,jq,jj,jy,jv,jk,jx,F,je,jA,zza,zzb,zk9 j.2 b,j.2.some b,b,D,r,x,n,d,jW,jY,ite_self,qQ,Jg,JA,JB,JC]
     refine U_d ?_
     exact ⟨((t,H),(N,h2)),[0,1,2,3],⟨G,J,et,M,Z,Q,R,X⟩,by repeat' first|exact rfl|exact trivial|assumption|decide|refine And.intro ?_ ?_⟩
   ·refine U_b 10 0 [6,4,3] rfl rfl ?_
    simp only [go_sem,jq,jj,jy,jv,jk,jx,F,je,jA,zza,zzb,zk9 j.2 b,j.2.some b,b,D,r,x,n,d,jW,jY,ite_self,qQ,Jg,JA,JB,JC]
    refine U_1 7 0 [] rfl rfl ?_
    simp only [go_sem,jq,jj,jy,jv,jk,jx,F,je,jA,zza,zzb,zk9 j.2 b,j.2.some b,b,D,r,x,n,d,jW,jY,ite_self,qQ,Jg,JA,JB,JC]
    try rw [zzc (show k+1≤f.surges.l.length by omega)]
    try simp only [go_sem,jq,jj,jy,jv,jk,jx,F,je,jA,zza,zzb,zk9 j.2 b,j.2.some b,b,D,r,x,n,d,jW,jY,ite_self,qQ,Jg,JA,JB,JC]
    refine U_1 8 0 [] rfl rfl ?_
    simp only [go_sem,jq,jj,jy,jv,jk,jx,F,je,jA,zza,zzb,zk9 j.2 b,j.2.some b,b,D,r,x,n,d,jW,jY,ite_self,qQ,Jg,JA,JB,JC]
    refine zkr (zLI (f.surges.to (k+1)) _ ((Sl.to_ok j.2 (k+1)).mono G) (by rw [Sl.to_len b];have:=hb.2;omega)) rfl ?_
    rintro v h2 J ⟨H,rfl,Q,R,X⟩
    refine Evs ?_
    refine U_1 9 0 [] rfl rfl ?_
    simp only [go_sem,jq,jj,jy,jv,jk,jx,F,je,jA,zza,zzb,zk9 j.2 b,j.2.some b,b,D,r,x,n,d,jW,jY,ite_self,qQ,Jg,JA,JB,JC]
    refine U_1 11 0 [] rfl rfl ?_
    simp only [go_sem,jq,jj,jy,jv,jk,jx,F,je,jA,zza,zzb,zk9 j.2 b,j.2.some b,b,D,r,x,n,d,jW,jY,ite_self,qQ,Jg,JA,JB,JC]
    refine U_d ?_
    exact ⟨((t,H),(N,h2)),[0,1,2,3],⟨G,J,et,M,Z,Q,R,X⟩,by repeat' first|exact rfl|exact trivial|assumption|decide|refine And.intro ?_ ?_⟩
  ·refine U_b 7 0 [1,0] rfl rfl ?_
   simp only [go_sem,jq,jj,jy,jv,jk,jx,F,je,jA,zza,zzb,zk9 j.2 b,j.2.some b,b,D,r,x,n,d,jW,jY,ite_self,qQ,Jg,JA,JB,JC]
   try rw [zzc (show k+1≤f.surges.l.length by omega)]
   try simp only [go_sem,jq,jj,jy,jv,jk,jx,F,je,jA,zza,zzb,zk9 j.2 b,j.2.some b,b,D,r,x,n,d,jW,jY,ite_self,qQ,Jg,JA,JB,JC]
   refine U_m 2 [10] ⟨?_,?_,trivial⟩
   ·refine U_b 2 0 [] rfl rfl ?_
    simp only [go_sem,jq,jj,jy,jv,jk,jx,F,je,jA,zza,zzb,zk9 j.2 b,j.2.some b,b,D,r,x,n,d,jW,jY,ite_self,qQ,Jg,JA,JB,JC]
    refine zkr (zLl f.tide _ j.1 (by have:=hb.1;omega)) rfl ?_
    rintro v N G ⟨t,rfl,et,M,Z⟩
    simp only [go_sem,jq,jj,jy,jv,jk,jx,F,je,jA,zza,zzb,zk9 j.2 b,j.2.some b,b,D,r,x,n,d,jW,jY,ite_self,qQ,Jg,JA,JB,JC]
    refine U_m 8 [10] ⟨?_,?_,trivial⟩
    ·refine U_b 8 0 [] rfl rfl ?_
     simp only [go_sem,jq,jj,jy,jv,jk,jx,F,je,jA,zza,zzb,zk9 j.2 b,j.2.some b,b,D,r,x,n,d,jW,jY,ite_self,qQ,Jg,JA,JB,JC]
     refine zkr (zLI (f.surges.to (k+1)) _ ((Sl.to_ok j.2 (k+1)).mono G) (by rw [Sl.to_len b];have:=hb.2;omega)) rfl ?_
     rintro v h2 J ⟨H,rfl,Q,R,X⟩
     refine Evs ?_
     refine U_m 9 [10] ⟨?_,?_,trivial⟩
     ·refine U_b 9 0 [] rfl rfl ?_
      simp only [go_sem,jq,jj,jy,jv,jk,jx,F,je,jA,zza,zzb,zk9 j.2 b,j.2.some b,b,D,r,x,n,d,jW,jY,ite_self,qQ,Jg,JA,JB,JC]
      refine U_1 10 0 [] rfl rfl ?_
      simp only [go_sem,jq,jj,jy,jv,jk,jx,F,je,jA,zza,zzb,zk9 j.2 b,j.2.some b,b,D,r,x,n,d,jW,jY,ite_self,qQ,Jg,JA,JB,JC]
      refine U_1 11 0 [] rfl rfl ?_
      simp only [go_sem,jq,jj,jy,jv,jk,jx,F,je,jA,zza,zzb,zk9 j.2 b,j.2.some b,b,D,r,x,n,d,jW,jY,ite_self,qQ,Jg,JA,JB,JC]
      refine U_d ?_
      exact ⟨((t,H),(N,h2)),[0,1,2,3],⟨G,J,et,M,Z,Q,R,X⟩,by repeat' first|exact rfl|exact trivial|assumption|decide|refine And.intro ?_ ?_⟩
     ·refine U_b 10 0 [] rfl rfl ?_
      simp only [go_sem,jq,jj,jy,jv,jk,jx,F,je,jA,zza,zzb,zk9 j.2 b,j.2.some b,b,D,r,x,n,d,jW,jY,ite_self,qQ,Jg,JA,JB,JC]
      refine U_1 9 0 [] rfl rfl ?_
      simp only [go_sem,jq,jj,jy,jv,jk,jx,F,je,jA,zza,zzb,zk9 j.2 b,j.2.some b,b,D,r,x,n,d,jW,jY,ite_self,qQ,Jg,JA,JB,JC]
      refine U_1 11 0 [] rfl rfl ?_
      simp only [go_sem,jq,jj,jy,jv,jk,jx,F,je,jA,zza,zzb,zk9 j.2 b,j.2.some b,b,D,r,x,n,d,jW,jY,ite_self,qQ,Jg,JA,JB,JC]
      refine U_d ?_
      exact ⟨((t,H),(N,h2)),[0,1,2,3],⟨G,J,et,M,Z,Q,R,X⟩,by repeat' first|exact rfl|exact trivial|assumption|decide|refine And.intro ?_ ?_⟩
    ·refine U_b 10 0 [] rfl rfl ?_
     simp only [go_sem,jq,jj,jy,jv,jk,jx,F,je,jA,zza,zzb,zk9 j.2 b,j.2.some b,b,D,r,x,n,d,jW,jY,ite_self,qQ,Jg,JA,JB,JC]
     refine U_1 8 0 [] rfl rfl ?_
     simp only [go_sem,jq,jj,jy,jv,jk,jx,F,je,jA,zza,zzb,zk9 j.2 b,j.2.some b,b,D,r,x,n,d,jW,jY,ite_self,qQ,Jg,JA,JB,JC]
     refine zkr (zLI (f.surges.to (k+1)) _ ((Sl.to_ok j.2 (k+1)).mono G) (by rw [Sl.to_len b];have:=hb.2;omega)) rfl ?_
     rintro v h2 J ⟨H,rfl,Q,R,X⟩
     refine Evs ?_
     refine U_1 9 0 [] rfl rfl ?_
     simp only [go_sem,jq,jj,jy,jv,jk,jx,F,je,jA,zza,zzb,zk9 j.2 b,j.2.some b,b,D,r,x,n,d,jW,jY,ite_self,qQ,Jg,JA,JB,JC]
     refine U_1 11 0 [] rfl rfl ?_
     simp only [go_sem,jq,jj,jy,jv,jk,jx,F,je,jA,zza,zzb,zk9 j.2 b,j.2.some b,b,D,r,x,n,d,jW,jY,ite_self,qQ,Jg,JA,JB,JC]
     refine U_d ?_
     exact ⟨((t,H),(N,h2)),[0,1,2,3],⟨G,J,et,M,Z,Q,R,X⟩,by repeat' first|exact rfl|exact trivial|assumption|decide|refine And.intro ?_ ?_⟩
   ·refine U_b 10 0 [1,0] rfl rfl ?_
    simp only [go_sem,jq,jj,jy,jv,jk,jx,F,je,jA,zza,zzb,zk9 j.2 b,j.2.some b,b,D,r,x,n,d,jW,jY,ite_self,qQ,Jg,JA,JB,JC]
    refine U_1 2 0 [] rfl rfl ?_
    simp only [go_sem,jq,jj,jy,jv,jk,jx,F,je,jA,zza,zzb,zk9 j.2 b,j.2.some b,b,D,r,x,n,d,jW,jY,ite_self,qQ,Jg,JA,JB,JC]
    refine zkr (zLl f.tide _ j.1 (by have:=hb.1;omega)) rfl ?_
    rintro v N G ⟨t,rfl,et,M,Z⟩
    simp only [go_sem,jq,jj,jy,jv,jk,jx,F,je,jA,zza,zzb,zk9 j.2 b,j.2.some b,b,D,r,x,n,d,jW,jY,ite_self,qQ,Jg,JA,JB,JC]
    refine U_1 8 0 [] rfl rfl ?_
    simp only [go_sem,jq,jj,jy,jv,jk,jx,F,je,jA,zza,zzb,zk9 j.2 b,j.2.some b,b,D,r,x,n,d,jW,jY,ite_self,qQ,Jg,JA,JB,JC]
    refine zkr (zLI (f.surges.to (k+1)) _ ((Sl.to_ok j.2 (k+1)).mono G) (by rw [Sl.to_len b];have:=hb.2;omega)) rfl ?_
    rintro v h2 J ⟨H,rfl,Q,R,X⟩
    refine Evs ?_
    refine U_1 9 0 [] rfl rfl ?_
    simp only [go_sem,jq,jj,jy,jv,jk,jx,F,je,jA,zza,zzb,zk9 j.2 b,j.2.some b,b,D,r,x,n,d,jW,jY,ite_self,qQ,Jg,JA,JB,JC]
    refine U_1 11 0 [] rfl rfl ?_
    simp only [go_sem,jq,jj,jy,jv,jk,jx,F,je,jA,zza,zzb,zk9 j.2 b,j.2.some b,b,D,r,x,n,d,jW,jY,ite_self,qQ,Jg,JA,JB,JC]
    refine U_d ?_
    exact ⟨((t,H),(N,h2)),[0,1,2,3],⟨G,J,et,M,Z,Q,R,X⟩,by repeat' first|exact rfl|exact trivial|assumption|decide|refine And.intro ?_ ?_⟩
  ·refine U_b 10 0 [6,4,1,3,0] rfl rfl ?_
   simp only [go_sem,jq,jj,jy,jv,jk,jx,F,je,jA,zza,zzb,zk9 j.2 b,j.2.some b,b,D,r,x,n,d,jW,jY,ite_self,qQ,Jg,JA,JB,JC]
   refine U_m 2 [7] ⟨?_,?_,trivial⟩
   ·refine U_b 2 0 [6,4,3] rfl rfl ?_
    simp only [go_sem,jq,jj,jy,jv,jk,jx,F,je,jA,zza,zzb,zk9 j.2 b,j.2.some b,b,D,r,x,n,d,jW,jY,ite_self,qQ,Jg,JA,JB,JC]
    refine zkr (zLl f.tide _ j.1 (by have:=hb.1;omega)) rfl ?_
    rintro v N G ⟨t,rfl,et,M,Z⟩
    simp only [go_sem,jq,jj,jy,jv,jk,jx,F,je,jA,zza,zzb,zk9 j.2 b,j.2.some b,b,D,r,x,n,d,jW,jY,ite_self,qQ,Jg,JA,JB,JC]
    refine U_1 7 0 [] rfl rfl ?_
    simp only [go_sem,jq,jj,jy,jv,jk,jx,F,je,jA,zza,zzb,zk9 j.2 b,j.2.some b,b,D,r,x,n,d,jW,jY,ite_self,qQ,Jg,JA,JB,JC]
    try rw [zzc (show k+1≤f.surges.l.length by omega)]
    try simp only [go_sem,jq,jj,jy,jv,jk,jx,F,je,jA,zza,zzb,zk9 j.2 b,j.2.some b,b,D,r,x,n,d,jW,jY,ite_self,qQ,Jg,JA,JB,JC]
    refine U_1 8 0 [] rfl rfl ?_
    simp only [go_sem,jq,jj,jy,jv,jk,jx,F,je,jA,zza,zzb,zk9 j.2 b,j.2.some b,b,D,r,x,n,d,jW,jY,ite_self,qQ,Jg,JA,JB,JC]
    refine zkr (zLI (f.surges.to (k+1)) _ ((Sl.to_ok j.2 (k+1)).mono G) (by rw [Sl.to_len b];have:=hb.2;omega)) rfl ?_
    rintro v h2 J ⟨H,rfl,Q,R,X⟩
    refine Evs ?_
    refine U_1 9 0 [] rfl rfl ?_
    simp only [go_sem,jq,jj,jy,jv,jk,jx,F,je,jA,zza,zzb,zk9 j.2 b,j.2.some b,b,D,r,x,n,d,jW,jY,ite_self,qQ,Jg,JA,JB,JC]
    refine U_1 11 0 [] rfl rfl ?_
    simp only [go_sem,jq,jj,jy,jv,jk,jx,F,je,jA,zza,zzb,zk9 j.2 b,j.2.some b,b,D,r,x,n,d,jW,jY,ite_self,qQ,Jg,JA,JB,JC]
    refine U_d ?_
    exact ⟨((t,H),(N,h2)),[0,1,2,3],⟨G,J,et,M,Z,Q,R,X⟩,by repeat' first|exact rfl|exact trivial|assumption|decide|refine And.intro ?_ ?_⟩
   ·refine U_b 7 0 [1,0] rfl rfl ?_
    simp only [go_sem,jq,jj,jy,jv,jk,jx,F,je,jA,zza,zzb,zk9 j.2 b,j.2.some b,b,D,r,x,n,d,jW,jY,ite_self,qQ,Jg,JA,JB,JC]
    try rw [zzc (show k+1≤f.surges.l.length by omega)]
    try simp only [go_sem,jq,jj,jy,jv,jk,jx,F,je,jA,zza,zzb,zk9 j.2 b,j.2.some b,b,D,r,x,n,d,jW,jY,ite_self,qQ,Jg,JA,JB,JC]
    refine U_1 2 0 [] rfl rfl ?_
    simp only [go_sem,jq,jj,jy,jv,jk,jx,F,je,jA,zza,zzb,zk9 j.2 b,j.2.some b,b,D,r,x,n,d,jW,jY,ite_self,qQ,Jg,JA,JB,JC]
    refine zkr (zLl f.tide _ j.1 (by have:=hb.1;omega)) rfl ?_
    rintro v N G ⟨t,rfl,et,M,Z⟩
    simp only [go_sem,jq,jj,jy,jv,jk,jx,F,je,jA,zza,zzb,zk9 j.2 b,j.2.some b,b,D,r,x,n,d,jW,jY,ite_self,qQ,Jg,JA,JB,JC]
    refine U_1 8 0 [] rfl rfl ?_
    simp only [go_sem,jq,jj,jy,jv,jk,jx,F,je,jA,zza,zzb,zk9 j.2 b,j.2.some b,b,D,r,x,n,d,jW,jY,ite_self,qQ,Jg,JA,JB,JC]
    refine zkr (zLI (f.surges.to (k+1)) _ ((Sl.to_ok j.2 (k+1)).mono G) (by rw [Sl.to_len b];have:=hb.2;omega)) rfl ?_
    rintro v h2 J ⟨H,rfl,Q,R,X⟩
    refine Evs ?_
    refine U_1 9 0 [] rfl rfl ?_
    simp only [go_sem,jq,jj,jy,jv,jk,jx,F,je,jA,zza,zzb,zk9 j.2 b,j.2.some b,b,D,r,x,n,d,jW,jY,ite_self,qQ,Jg,JA,JB,JC]
    refine U_1 11 0 [] rfl rfl ?_
    simp only [go_sem,jq,jj,jy,jv,jk,jx,F,je,jA,zza,zzb,zk9 j.2 b,j.2.some b,b,D,r,x,n,d,jW,jY,ite_self,qQ,Jg,JA,JB,JC]
    refine U_d ?_
    exact ⟨((t,H),(N,h2)),[0,1,2,3],⟨G,J,et,M,Z,Q,R,X⟩,by repeat' first|exact rfl|exact trivial|assumption|decide|refine And.intro ?_ ?_⟩
 rintro ⟨⟨t,H⟩,⟨N,h2⟩⟩ ⟨G,J,et,M,Z,Q,R,X⟩
 simp only at G J et M Z Q R X
 have J:N.le h2:=J
 have bj:∀ g,H.a=some ⟨g,0,none⟩→h g=none:=fun g hg=>by
  cases hh:h g with
  | none=>rfl
  | some o=>have:=G g o hh;rw [X g hg] at this;cases this
 obtain ⟨c,ah⟩:∃ c:DSurge,c=⟨m,max f.surges.l[k].low lo,min f.surges.l[k].high hi⟩:=⟨_,rfl⟩
 have bk:H.l.length=k+1:=by rw [Q,Sl.to_len (by omega)]
 have al:∀ y ∈ H.l,jD N y:=fun y hy=>by
  rw [Q] at hy
  exact jL G (j.2.2.2.2.1 y (yB hy))
 refine zc3 ?_
 refine zFS (ι:=Sl DSurge × Hp) (fun i=>⟨[(1,true,.c (.v (.int .i64 m))),(2,true,.c (.v (.int .i64 lo))),(3,true,.c (.v (.int .i64 hi))),(4,true,.c (.p 0 0)),(8,true,.c (.p 1 0)),(10,true,.c (.v (.int .i64 k))),(11,true,.c (.p 2 0)),(12,true,.c (.p 3 0))],[(0,.box 53 [.v (.int .i64 f.tide.mean),.v f.tide.parts.val,.v f.surges.val]),(1,.box 53 [.v (.int .i64 0),.v (.slice none 0 0),.v (.slice none 0 0)]),(2,.box 125 [.v (.int .i64 f.surges.l[k].src),.v (.int .i64 f.surges.l[k].low),.v (.int .i64 f.surges.l[k].high)]),(3,.box 53 [.v (.int .i64 t.mean),.v t.parts.val,.v i.1.val])],i.2,4⟩)
  (fun i=>RowAt 125 i.2 i.1∧(∀ g,i.1.a=some ⟨g,0,none⟩→N g=none)∧N.le i.2∧(0 < i.1.l.length∧i.1.l.length≤k+2)∧(∀ y ∈ i.1.l,jD N y)∧i.1.l.set (i.1.l.length - 1) c=(if f.surges.l[k].src=m then f.surges.l.take k else f.surges.l.take (k+1)) ++ [c]) ?_ ?_
 ·refine Wk ?_
  refine zc9 rfl (fun hz=>?_) (fun hz=>?_)
  ·first|refine zzr [0,0,0,0,3] rfl ?_|refine zzq [0,0,0,0,3] rfl ?_|(refine zc3 ?_;first|refine zzr [0,0,0,0,3] rfl ?_|refine zzq [0,0,0,0,3] rfl ?_)
   refine Evs ?_
   refine zD6 (s:=H) rfl R (fun g hg=>.inl (bj g hg)) ?_
   refine Evs ?_
   refine ⟨rfl,by simp only [maxLen];omega,by omega,fun aj ae h3 P2=>?_⟩
   have aq:Pub (zD4 h2 H) 125 (wA DSurge) (H.l ++ [(⟨0,0,0⟩:DSurge)]).length ((H.l ++ [(⟨0,0,0⟩:DSurge)]).flatMap qx) aj ae h3:=by
    rw [jP,jF];exact P2
   obtain ⟨R2,f2,_⟩:=aq.row
   obtain ⟨bl,bm⟩:=pubF (l:=H.l) R J X aq
   have hv:(Sl.mk aj ae (H.l ++ [(⟨0,0,0⟩:DSurge)])).val=.slice aj (H.l.length+1) ae:=by simp only [Sl.val,jP,jg]
   refine ⟨(⟨aj,ae,H.l ++ [(⟨0,0,0⟩:DSurge)]⟩,h3),[0,1,2,3],⟨R2,bm,bl,⟨by show 0 < (H.l ++ [_]).length;rw [jP,jg];omega,by show (H.l ++ [_]).length≤_;rw [jP,jg];omega⟩,fun y hy=>?_,?_⟩,?_⟩
   ·rcases List.mem_append.1 hy with hy|hy
    ·exact al y hy
    ·rw [List.mem_singleton.1 hy]
     have am:I64 0:=by unfold I64;omega
     exact ⟨am,am,am⟩
   ·have bn:f.surges.l[k].src ≠ m:=by simpa using hz
    show (H.l ++ [_]).set ((H.l ++ [_]).length - 1) c=_
    rw [if_neg bn,jP,jg,uW,List.set_append_right _ _ (qV _),Je,List.set_cons_zero,Q]
    rfl
   simp only [go_sem,jq,jj,jy,jv,jk,jx,hv]
   exact Gk
  ·refine Wk ?_
   refine ⟨(H,h2),[0,1,2,3],⟨R,X,J,⟨by show 0 < H.l.length;omega,by show H.l.length≤_;omega⟩,al,?_⟩,?_⟩
   ·have he:f.surges.l[k].src=m:=by simpa using hz
    show H.l.set (H.l.length - 1) c=_
    rw [if_pos he,bk,Q,uW]
    show (f.surges.l.take (k+1)).set k c=_
    have bp:(f.surges.l.take k).length=k:=by rw [ww];omega
    rw [qw b,List.set_append_right _ _ (by omega),bp,Je,List.set_cons_zero]
   refine Evs ?_
   exact Gk
 rintro ⟨s2,hp⟩ ⟨R2,ak,au,bq,av,an⟩
 simp only at R2 ak au bq av an
 obtain ⟨g,cur,ga,gb,gs,R3⟩:=zLG (w:=c) (i:=s2.l.length - 1) R2 (by omega)
 have br:IntKind.i64.wrap ((s2.l.length:Int) - 1)=((s2.l.length - 1:Nat):Int):=by rw [zjz (by omega)];omega
 first|refine zzr [0,0,0,0,0,0,0,0,0,0,0,0,0,0,0,0,0,1] rfl ?_|refine zzq [0,0,0,0,0,0,0,0,0,0,0,0,0,0,0,0,0,1] rfl ?_|(refine zc3 ?_;first|refine zzr [0,0,0,0,0,0,0,0,0,0,0,0,0,0,0,0,0,1] rfl ?_|refine zzq [0,0,0,0,0,0,0,0,0,0,0,0,0,0,0,0,0,1] rfl ?_)
 simp only [go_sem,jq,jj,jy,jv,jk,jx,ga,br,qq,za4,jX,jW,jY,jb,qJ,jE,Jg,JA,JB,JC,true_or]
 subst ah
 have aw:N g=none:=ak g ga
 have bt:h g=none:=by
  cases hh:h g with
  | none=>rfl
  | some o=>have:=G g o hh;rw [aw] at this;cases this
 refine ⟨by omega,?_⟩
 refine zLH (us:=qx (⟨m,max f.surges.l[k].low lo,min f.surges.l[k].high hi⟩:DSurge)) (by simp only [go_sem]) (by simp only [go_sem]) rfl gb (.inl bt) gs ?_
 have ax:∀ o:Obj,N.le (hp.ins g o):=fun o q o' hq=>by
  rw [JJ (fun e=>by rw [e,aw] at hq;cases hq)];exact au q o' hq
 obtain ⟨O,ab⟩:∃ O:Sl DSurge,O=⟨s2.a,s2.cap,s2.l.set (s2.l.length - 1) ⟨m,max f.surges.l[k].low lo,min f.surges.l[k].high hi⟩⟩:=⟨_,rfl⟩
 rw [← ab] at R3
 obtain ⟨h4,R4,az⟩:∃ h4,RowAt 125 h4 O∧h4=hp.ins g (.cells (spl ((s2.l.length - 1) * wA DSurge) (qx (⟨m,max f.surges.l[k].low lo,min f.surges.l[k].high hi⟩:DSurge)) cur.toList).toArray 125 (0,0)):=⟨_,R3,rfl⟩
 have bu:N.le h4:=by rw [az];exact ax _
 have bv:O.val=s2.val:=by rw [ab];simp only [Sl.val,wc]
 have bf:∀ g,O.a=some ⟨g,0,none⟩→h g=none:=fun g hg=>by
  rw [ab] at hg
  cases hh:h g with
  | none=>rfl
  | some o=>have:=G g o hh;rw [ak g hg] at this;cases this
 have ao:∀ g,O.a=some ⟨g,0,none⟩→N g=none:=fun g hg=>by rw [ab] at hg;exact ak g hg
 have bw:∀ a,O.a=some a→a.off=0∧a.spot=none:=fun a ha=>by rw [ab] at ha;have ha:s2.a=some a:=ha;rw [ga] at ha;cases ha;exact ⟨rfl,rfl⟩
 have ac:∀ (hp:Prop) (K:SV→Prop),zgh hp (((k+1:Nat)):Int) (f.surges.l.length:Int) f.surges.val 3 K=(hp∧K (.c (.v (f.surges.fr (k+1)).val))):=fun hp K=>zLy b
 have cb:O.l.length≤k+2:=by rw [ab];show (s2.l.set _ _).length≤_;rw [wc];omega
 have a7:(f.surges.fr (k+1)).l.length=f.surges.l.length - (k+1):=by show (List.drop _ _).length=_;rw [ub]
 have bg:∀ o:Obj,(zD4 (hp.ins g o) O).ldL (f.surges.fr (k+1)).val 3=some ((f.surges.l.drop (k+1)).flatMap qx):=fun o =>
  (Sl.fr_ok (j.2.mono (jB G (zD7 (ax o) ao bw))) (k+1)).all (by decide)
 refine Wk ?_
 refine zz5 rfl ?_
 refine U_t [0,2,4,1,3,5] rfl ?_
 simp only [go_sem,jq,jj,jy,jv,jk,jx,ac,r,x,n,d,jW,jY,ite_self,jX,jc,Jg,JA,JB,JC]
 refine U_1 6 0 [1,0] rfl rfl ?_
 simp only [go_sem,jq,jj,jy,jv,jk,jx,ac,r,x,n,d,jW,jY,ite_self,jX,jc,Jg,JA,JB,JC]
 refine U_1 7 3 [] rfl rfl ?_
 simp only [go_sem,jq,jj,jy,jv,jk,jx,ac,r,x,n,d,jW,jY,ite_self,jX,jc,Jg,JA,JB,JC]
 refine zD6 (s:=O) (by rw [bv];rfl) R3 (fun g hg=>.inl (bf g hg)) ?_
 simp only [go_sem,jq,jj,jy,jv,jk,jx,ac,r,x,n,d,jW,jY,ite_self,jX,jc,Jg,JA,JB,JC]
 simp only [go_sem,jq,jj,jy,jv,jk,jx,bg,JA,jX,jc]
 refine ⟨rfl,fun u hu=>by obtain ⟨z,_,hz⟩:=List.mem_flatMap.1 hu;exact uD z u hz,by rw [a7];simp only [maxLen];omega,by rw [a7];omega,fun aa Y h5 P5=>?_⟩
 have a8:Pub (zD4 h4 O) 125 (wA DSurge) (O.l ++ f.surges.l.drop (k+1)).length ((O.l ++ f.surges.l.drop (k+1)).flatMap qx) aa Y h5:=by
  rw [jP,jF,az];exact P5
 obtain ⟨R5,f5,_⟩:=a8.row
 obtain ⟨ai,bz⟩:=pubF (l:=O.l) R4 bu ao a8
 have b7:Value.slice aa (O.l.length+(f.surges.fr (k+1)).l.length) Y=(Sl.mk aa Y (O.l ++ f.surges.l.drop (k+1))).val:=by simp only [Sl.val,jP];rfl
 simp only [go_sem,jq,jj,jy,jv,jk,jx,b7]
 refine U_t [8] rfl ?_
 simp only [go_sem,jq,jj,jy,jv,jk,jx,ac,r,x,n,d,jW,jY,ite_self,jX,jc,Jg,JA,JB,JC]
 refine U_1 9 0 [] rfl rfl ?_
 simp only [go_sem,jq,jj,jy,jv,jk,jx,ac,r,x,n,d,jW,jY,ite_self,jX,jc,Jg,JA,JB,JC]
 refine U_d ?_
 refine Wk ?_
 have bh:O.l ++ f.surges.l.drop (k+1)=revA f.surges.l m lo hi:=by
  rw [ab]
  show s2.l.set (s2.l.length - 1) _ ++ _=_
  rw [an,revA,F,sget b]
 have bi:jD h f.surges.l[k]:=j.2.2.2.2.1 _ (qd b)
 have bd:jD h5 (⟨t,⟨aa,Y,O.l ++ f.surges.l.drop (k+1)⟩⟩:DForecast):=⟨jL ai M,R5.ok (by decide) fun y hy=>by
  rcases List.mem_append.1 hy with hy|hy
  ·rw [ab] at hy
   rcases yX hy with hy|rfl
   ·exact jL ai (av y hy)
   ·obtain ⟨q1,q2,q3⟩:=bi
    unfold I64 at *
    exact ⟨by unfold I64;omega,by unfold I64;show _≤max _ _∧max _ _≤_;omega,by unfold I64;show _≤min _ _∧min _ _≤_;omega⟩
  ·exact jL (jB G ai) (j.2.2.2.2.1 y (yA hy))⟩
 refine zhF (fun _=>zBe (⟨t,⟨aa,Y,O.l ++ f.surges.l.drop (k+1)⟩⟩:DForecast) _ bd) ?_
 have ah:jK (⟨t,⟨aa,Y,O.l ++ f.surges.l.drop (k+1)⟩⟩:DForecast)=({ (jK f:PForecast) with surges:=revA (jK f:PForecast).surges m lo hi }:PForecast):=by
  rw [zlb,zCL,← bh,show jK t=(jK f:PForecast).tide from et]
  congr 1
  exact ux _
 refine Evs ?_
 refine zc9 rfl (fun hz=>?_) (fun hz=>?_)
 ·have hz:zBb (jK (⟨t,⟨aa,Y,O.l ++ f.surges.l.drop (k+1)⟩⟩:DForecast))=false:=by simpa using hz
  have hR:zLw (jK f) m lo hi=none:=by
   rw [ah] at hz
   rw [zLw,if_pos ⟨ag,ap⟩,if_neg (by rw [hz];exact qa)]
  refine Wk ?_
  exact ⟨⟨⟨0,⟨none,0,[]⟩⟩,⟨none,0,[]⟩⟩,by rw [hR];rfl,by rw [hR];rfl,⟨⟨by show I64 0;unfold I64;omega,znE⟩,znE⟩,zLK⟩
 ·have hz:zBb (jK (⟨t,⟨aa,Y,O.l ++ f.surges.l.drop (k+1)⟩⟩:DForecast))=true:=by simpa using hz
  have hR:zLw (jK f) m lo hi=some (jK (⟨t,⟨aa,Y,O.l ++ f.surges.l.drop (k+1)⟩⟩:DForecast)):=by
   rw [ah] at hz
   rw [zLw,if_pos ⟨ag,ap⟩,if_pos hz,ah]
  have m5:=zLJ R5 bz
  refine Wk ?_
  exact ⟨⟨t,⟨aa,Y,O.l ++ f.surges.l.drop (k+1)⟩⟩,by rw [hR];rfl,by rw [hR];rfl,bd,News.mine ⟨(Mine.on ai M Z).1,m5.1⟩ (Z.news.append G ai m5.news)⟩
def zLM (L:List (List POption)) (ch:List Int) (k:Nat) (p:List POption):Option (List POption):=if 0≤ch.getD k 0∧ch.getD k 0 < (L.getD k []).length then some (p ++ [(L.getD k []).getD (ch.getD k 0).toNat zGU]) else none
def plGo (L:List (List POption)) (ch:List Int):Nat→Option (List POption)
 | 0=>some []
 | k+1=>(plGo L ch k).bind (zLM L ch k)
def oLB (o:Option (List POption)):List POption × Bool:=match o with|none=>([],false)|some s=>(s,true)
def zLN (x:PHarbour) (calls:List DCall) (ch:List Int):List POption × Bool:=if (zB5 x calls && decide (ch.length=calls.length))=true then oLB (plGo (zKH x calls) ch calls.length) else ([],false)
theorem zLO {L:List (List POption)} {ch:List Int} {k:Nat} (h:plGo L ch k=none):∀ {n:Nat},k≤n→plGo L ch n=none
 | 0,a=>by rw [← Nat.le_zero.1 a,h]
 | n+1,a=>by
  rcases wv n k with b|b
  ·rw [show n+1=k by omega,h]
  ·rw [plGo,zLO h b];rfl
theorem zLP {L:List (List POption)} {ch:List Int} {k n:Nat} {p:List POption} (h:plGo L ch k=some p) (a:¬ (0≤ch.getD k 0∧ch.getD k 0 < (L.getD k []).length)) (b:k < n):plGo L ch n=none:=by
 refine zLO (k:=k+1) ?_ b
 rw [plGo,h,yf,zLM,if_neg a]
theorem zLQ {L:List (List POption)} {ch:List Int} {k:Nat} {p:List POption} (h:plGo L ch k=some p) (a:0≤ch.getD k 0∧ch.getD k 0 < (L.getD k []).length):plGo L ch (k+1)=some (p ++ [(L.getD k []).getD (ch.getD k 0).toNat zGU]):=by
 rw [plGo,h,yf,zLM,if_pos a]
theorem zLR {α:Type} [Enc α] [Foot α] {l:List α} {i:Nat} (c:i < l.length):(qj l[i]).Sublist (l.flatMap qj):=by
 obtain ⟨a,b,e⟩:=List.append_of_mem (qd c)
 have d:l.flatMap qj=(a ++ l[i] :: b).flatMap qj:=congrArg (fun z=>z.flatMap qj) e
 rw [d,jF,wV]
 exact (List.sublist_append_left _ _).trans (List.sublist_append_right _ _)
theorem zLS {α:Type} [Enc α] [Foot α] {s:Sl α} {i:Nat} (a:i < s.l.length):(qj s.l[i]).Sublist (qj s):=by
 rw [show qj s=_ from Sl.foot_ne (fun e=>by rw [e] at a;cases a)]
 exact (zLR a).trans (List.sublist_cons_self _ _)
theorem zLT {α:Type} [Enc α] [Foot α] {h:Hp} {s:Sl α} (H:wX h s) {i:Nat} (a:i < s.l.length):wX h s.l[i] :=
 (H (fun e=>by rw [e] at a;cases a)).2 _ (qd a)
theorem zLU {α:Type} [Enc α] [Foot α] {h h':Hp} {s:Sl α} (H:Mine h h' s) {i:Nat} (a:i < s.l.length):Mine h h' s.l[i] :=
 ⟨zLT H.1 a,fun b c=>H.2.1 b ((zLS a).subset c),H.2.2.sublist (zLS a)⟩
theorem zLV {l:List DOption} {c:Int} (h0:0≤c) (a:c.toNat < l.length):(l.map (jK (α:=DOption))).getD c.toNat zGU=jK l[c.toNat]:=by
 simp [ja,a]
set_option maxRecDepth 30000 in
theorem zLW (x:DHarbour) (a:Sl DCall) (m:Sl Int) (h:Hp) (hx:jD h x) (Q:a.Ok h) (hm:m.Ok h):Ct jV 40 [x.v,a.val,m.val] h fun v h'=>∃ s:Sl DOption,v=.tuple #[s.val,.bool (zLN (jK x) a.l m.l).2]∧s.l.map (jK (α:=DOption))=(zLN (jK x) a.l m.l).1∧s.Ok h'∧Mine h h' s:=by
 have ag:=Q.max
 have ah:=hm.max
 refine zdn (fun A W=>by simp) Tryz.func40 rfl rfl (by simp) fun W0=>?_
 repeat' first|refine Wa ?_|refine zhF (fun _=>zB8 x a _ hx Q) ?_|(simp only [go_sem,jq,jj,jy,jv,jk,jx];try rfl)|refine Wb ?_|fail
 rw [zB6]
 refine zc9 rfl (fun M=>?_) (fun M=>?_)
 ·have R:zLN (jK x) a.l m.l=([],false):=by
   rw [zLN,if_neg]
   intro H
   rw [jJ,JD] at H
   rw [H.1,H.2] at M
   simp at M
  rw [R]
  refine Wk ?_
  exact ⟨⟨none,0,[]⟩,rfl,rfl,znE,Mine.nil⟩
 obtain ⟨D,ab⟩:=Bool.or_eq_false_iff.1 M
 rw [jf] at D
 have X:m.l.length=a.l.length:=by
  have h9:(m.l.length:Int)=a.l.length:=by simpa using ab
  omega
 have R:zLN (jK x) a.l m.l=oLB (plGo (zKH (jK x) a.l) m.l a.l.length):=by
  rw [zLN,D,X,JG rfl];rfl
 have h6:=zKM D
 have hz:a.l.length≤1048576:=by omega
 rw [R]
 refine Wk ?_
 refine zng (ι:=Nat × List DOption × Hp) (fun i=>⟨[(2,true,.c (.v m.val)),(3,true,.c (.p 0 0)),(6,true,.c (.v (.slice none 0 0))),(7,true,.c (.v (.bool false))),(8,true,.c (.s 1)),(24,true,.c (.v a.val)),(25,true,.c (.v (.int .i64 a.l.length))),(26,true,.c (.v (.int .i64 i.1)))],[(0,.box 62 [.v (.int .i64 x.forecast.tide.mean),.v x.forecast.tide.parts.val,.v x.forecast.surges.val,.v x.chart.points.val,.v x.chart.segments.val,.v x.fleet.val,.v (.int .i64 x.regime.gap),.v (.bool x.regime.noMeet),.v (.int .i64 x.crew.tugs),.v (.int .i64 x.crew.pilots),.v (.int .i64 x.crew.rest),.v x.crew.moves.val]),(1,.row 84 4 i.2.1.length (i.2.1.flatMap qx))],i.2.2,2⟩) (fun i=>i.1≤a.l.length∧i.2.1.length=i.1∧plGo (zKH (jK x) a.l) m.l i.1=some (i.2.1.map jK)∧(∀ y ∈ i.2.1,jD i.2.2 y)∧Mines h i.2.2 i.2.1∧h.le i.2.2) (fun i=>a.l.length - i.1) (0,[],h) ⟨jC _,rfl,rfl,fun y n=>(by cases n),Mines.nil,wW _⟩ [0,1] ?_ ?_
 ·refine Evs ?_
  exact Gk
 rintro ⟨k,acc,hk⟩ ⟨ac,O,r,e,o,f⟩
 simp only at ac O r e o f
 have F:=Q.mono f
 have ae:jD hk x:=jL f hx
 refine Wk ?_
 refine zc9 rfl (fun Y=>?_) (fun Y=>?_)
 ·have d:=zjH Y
  repeat' first|refine Wa ?_|(simp only [go_sem,jq,jj,jy,jv,jk,jx,zkT F d,F.some d,d,jW];try rfl)|refine Wb ?_|fail
  refine zkr (zHk x a.l[k] _ ae (F.el d)) rfl ?_
  rintro v h2 t ⟨s,rfl,Z,u,ms⟩
  have Z:s.l.map (jK (α:=DOption))=zHa (jK x) a.l[k]:=Z
  have j:=(hm.mono f).mono t
  have b:k < m.l.length:=by omega
  have w:(k:Int) < m.l.length:=by omega
  have ai:=u.max
  have aa:=jB f t
  have G:(zKH (jK x) a.l).getD k []=s.l.map (jK (α:=DOption)):=by rw [zKK d,Z]
  have J:m.l.getD k 0=m.l[k]:=iget b
  repeat' first|refine Wa ?_|refine zhF (fun _=>zAD _ _ _) ?_|(simp only [go_sem,jq,jj,jy,jv,jk,jx,atI j b,j.some b,b,w,jW,jY,Jg,JA,JB,JC];try rfl)|refine Wb ?_|fail
  refine zc9 rfl (fun N=>?_) (fun N=>?_)
  ·refine Wk ?_
   rw [zLP r (by
    rw [G,J,zHw]
    intro H
    rw [JG H.1,JG H.2] at N
    cases N) d]
   exact ⟨⟨none,0,[]⟩,rfl,rfl,znE,Mine.nil⟩
  ·have z:0≤m.l[k]∧m.l[k] < (s.l.length:Int):=by simpa using N
   have g:m.l[k].toNat < s.l.length:=by omega
   have K:=zLQ r (by rw [G,J,zHw];exact z)
   rw [G,J,zLV z.1 g] at K
   repeat' first|refine Wa ?_|(simp only [go_sem,jq,jj,jy,jv,jk,jx,atI j b,j.some b,b,w,zkZ u g,u.some g,g,z.1,z.2,jW,jY,Jg,JA,JB,JC];try rfl)|refine Wb ?_|fail
   refine ⟨by simp only [maxLen];omega,by omega,?_⟩
   refine Wk ?_
   have hw:IntKind.i64.wrap ((k:Int)+1)=((k+1:Nat):Int):=zjA d (by omega)
   refine ⟨(k+1,acc ++ [s.l[m.l[k].toNat]],h2),[0,4],⟨d,?_,?_,fun y n=>?_,Mines.snoc o e t f (zLU ms g),aa⟩,by simp only;omega,?_⟩
   ·show (acc ++ _).length=k+1
    rw [jP,O];rfl
   ·rw [K]
    show _=some ((acc ++ _).map _)
    rw [qB];rfl
   ·rcases List.mem_append.1 n with n|n
    ·exact jL t (e y n)
    ·rw [List.mem_singleton.1 n];exact u.el g
   refine Evs ?_
   rw [hw]
   simp only [jF,jP]
   exact Gk
 ·have aj:=zjI Y
  obtain rfl:k=a.l.length:=by omega
  refine zc6 ?_
  refine Evs ?_
  refine zl7 1 acc rfl rfl rfl rfl (by decide) e h f o fun q h' e2 e3 e4 e5=>?_
  refine Wk ?_
  rw [r]
  exact ⟨q,rfl,by rw [e2];rfl,e3,e5⟩
set_option maxRecDepth 30000 in
theorem zLX (x:DHarbour) (a:Sl DCall) (m:Sl Int) (h:Hp) (hx:jD h x) (X:a.Ok h) (hm:m.Ok h):Ct jV 39 [x.v,a.val,m.val] h fun v h'=>∃ s:Sl DOption,v=.tuple #[s.val,.bool (zLN (jK x) a.l m.l).2]∧s.l.map (jK (α:=DOption))=(zLN (jK x) a.l m.l).1∧s.Ok h'∧Mine h h' s:=by
 have ai:=X.max
 have aj:=hm.max
 refine zdn (fun A W=>by simp) Tryz.func39 rfl rfl (by simp) fun W0=>?_
 repeat' first|refine Wa ?_|refine zhF (fun _=>zB7 x a _ hx X) ?_|(simp only [go_sem,jq,jj,jy,jv,jk,jx];try rfl)|refine Wb ?_|fail
 rw [zB6]
 refine zc9 rfl (fun K=>?_) (fun K=>?_)
 ·have Y:zLN (jK x) a.l m.l=([],false):=by
   rw [zLN,if_neg]
   intro H
   rw [jJ,JD] at H
   rw [H.1,H.2] at K
   simp at K
  rw [Y]
  refine Wk ?_
  exact ⟨⟨none,0,[]⟩,rfl,rfl,znE,Mine.nil⟩
 obtain ⟨z,aa⟩:=Bool.or_eq_false_iff.1 K
 rw [jf] at z
 have Z:m.l.length=a.l.length:=by
  have h9:(m.l.length:Int)=a.l.length:=by simpa using aa
  omega
 have Y:zLN (jK x) a.l m.l=oLB (plGo (zKH (jK x) a.l) m.l a.l.length):=by
  rw [zLN,z,Z,JG rfl];rfl
 have h6:=zKM z
 have hz:a.l.length≤1048576:=by omega
 rw [Y]
 refine Wk ?_
 refine zkr (zKJ x a _ hx X hz) rfl ?_
 rintro v M O ⟨L,rfl,eL,o,mL⟩
 have ab:L.l.length=a.l.length:=by have:=congrArg ud eL;rwa [jH,zKL] at this
 have ak:=o.max
 have p:=hm.mono O
 refine Wk ?_
 refine zng (ι:=Nat × List DOption) (fun i=>⟨[(2,true,.c (.v m.val)),(6,true,.c (.v (.slice none 0 0))),(7,true,.c (.v (.bool false))),(8,true,.c (.s 1)),(25,true,.c (.v L.val)),(26,true,.c (.v (.int .i64 L.l.length))),(27,true,.c (.v (.int .i64 i.1)))],[(0,.box 62 [.v (.int .i64 x.forecast.tide.mean),.v x.forecast.tide.parts.val,.v x.forecast.surges.val,.v x.chart.points.val,.v x.chart.segments.val,.v x.fleet.val,.v (.int .i64 x.regime.gap),.v (.bool x.regime.noMeet),.v (.int .i64 x.crew.tugs),.v (.int .i64 x.crew.pilots),.v (.int .i64 x.crew.rest),.v x.crew.moves.val]),(1,.row 84 4 i.2.length (i.2.flatMap qx))],M,2⟩) (fun i=>i.1≤L.l.length∧i.2.length=i.1∧plGo (zKH (jK x) a.l) m.l i.1=some (i.2.map jK)∧(∀ y ∈ i.2,jD M y∧wX M y)∧(i.2.flatMap qj).Sublist ((L.l.take i.1).flatMap qj)) (fun i=>L.l.length - i.1) (0,[]) ⟨jC _,rfl,rfl,fun y g=>(by cases g),List.Sublist.refl _⟩ [0,1] ?_ ?_
 ·refine Evs ?_
  exact Gk
 rintro ⟨k,acc⟩ ⟨ac,D,r,f,n⟩
 simp only at ac D r f n
 refine Wk ?_
 refine zc9 rfl (fun hd=>?_) (fun hd=>?_)
 ·have e:=zjH hd
  have d:k < m.l.length:=by omega
  have t:(k:Int) < m.l.length:=by omega
  have u:=o.el e
  have al:=Sl.Ok.max u
  have F:(zKH (jK x) a.l).getD k []=L.l[k].l.map (jK (α:=DOption)):=by rw [← eL,zKI e]
  have G:m.l.getD k 0=m.l[k]:=iget d
  have ae:IntKind.i64.wrap ((L.l[k].l.length:Int) - 1)=(L.l[k].l.length:Int) - 1:=zjz (by omega)
  repeat' first|refine Wa ?_|refine zhF (fun _=>zAA _ _ _ _) ?_|(simp only [go_sem,jq,jj,jy,jv,jk,jx,zkQ o e,o.some e,e,atI p d,p.some d,d,t,jW,jY,Jg,JA,JB,JC];try rfl)|refine Wb ?_|fail
  rw [ae]
  refine zc9 rfl (fun N=>?_) (fun N=>?_)
  ·refine Wk ?_
   rw [zLP r (by
    rw [F,G,zHw]
    intro H
    rw [JG H.1,JG (show m.l[k]≤(L.l[k].l.length:Int) - 1 by omega)] at N
    cases N) (by omega)]
   exact ⟨⟨none,0,[]⟩,rfl,rfl,znE,Mine.nil⟩
  ·have ah:0≤m.l[k]∧m.l[k]≤(L.l[k].l.length:Int) - 1:=by simpa using N
   have w:0≤m.l[k]∧m.l[k] < (L.l[k].l.length:Int):=by omega
   have j:m.l[k].toNat < L.l[k].l.length:=by omega
   have J:=zLQ r (by rw [F,G,zHw];exact w)
   rw [F,G,zLV w.1 j] at J
   repeat' first|refine Wa ?_|(simp only [go_sem,jq,jj,jy,jv,jk,jx,atI p d,p.some d,d,t,zkZ u j,Sl.Ok.some u j,j,w.1,w.2,jW,jY,Jg,JA,JB,JC];try rfl)|refine Wb ?_|fail
   refine ⟨by simp only [maxLen];omega,by omega,?_⟩
   refine Wk ?_
   have hw:IntKind.i64.wrap ((k:Int)+1)=((k+1:Nat):Int):=zjA e (by omega)
   refine ⟨(k+1,acc ++ [L.l[k].l[m.l[k].toNat]]),[0,3],⟨e,?_,?_,fun y g=>?_,?_⟩,by simp only;omega,?_⟩
   ·show (acc ++ _).length=k+1
    rw [jP,D];rfl
   ·rw [J]
    show _=some ((acc ++ _).map _)
    rw [qB];rfl
   ·rcases List.mem_append.1 g with g|g
    ·exact f y g
    ·rw [List.mem_singleton.1 g];exact ⟨Sl.Ok.el u j,zLT (zLT mL.1 e) j⟩
   ·show ((acc ++ _).flatMap _).Sublist ((L.l.take (k+1)).flatMap _)
    rw [jF,qw e,jF]
    refine List.Sublist.append n ?_
    rw [wV,uH,yJ,wV,uH,yJ]
    exact zLS j
   refine Evs ?_
   rw [hw]
   simp only [jF,jP]
   exact Gk
 ·have am:=zjI hd
  obtain rfl:k=L.l.length:=by omega
  refine zc6 ?_
  refine Evs ?_
  have Q:(acc.flatMap qj).Sublist (qj L):=by
   by_cases R:L.l=[]
   ·have:acc=[]:=uj (by rw [D,R];rfl)
    rw [this];exact List.nil_sublist _
   ·rw [show qj L=_ from Sl.foot_ne R]
    rw [qG] at n
    exact n.trans (List.sublist_cons_self _ _)
  have ag:Mines h M acc:=⟨fun y g=>(f y g).2,fun b hb=>mL.2.1 b (Q.subset hb),mL.2.2.sublist Q⟩
  refine zl7 1 acc rfl rfl rfl rfl (by decide) (fun y g=>(f y g).1) h O ag fun q h' e2 e3 e4 e5=>?_
  refine Wk ?_
  rw [← ab,r]
  exact ⟨q,rfl,by rw [e2];rfl,e3,e5⟩
theorem zLY {q:DOption} {B:Nat} (a:Sz.sz (jK q)≤B):q.pas.l.length≤B:=by
 have h2:Sz.sz (jK q)=Sz.sz (jK q.pas):=rfl
 rw [h2] at a
 have:=znM a
 rwa [znP] at this
abbrev wL (x:DHarbour) (a:DCall) (r:List Int):List Bool:=zGw (jK x.chart) ((zEi (jK x.chart) a.src r).getD []) r.length
abbrev mL (x:DHarbour) (a:DCall) (r:List Int):List Int:=minL (jK x.chart) (zGP (jK x) a) r r.length
abbrev uL (x:DHarbour) (a:DCall) (r:List Int):List (List DWindow):=zGx (jK x.forecast) (jK x.chart) (zGP (jK x) a) r r.length
structure Voy (x:DHarbour) (a:DCall) (r:List Int) (m:Int) (pl l:List Int):Prop where
 hc:zBp (jK x.chart)=true
 so:zBA (zGP (jK x) a)=true
 n0:0 < r.length
 n8:r.length≤8
 rt:zEi (jK x.chart) a.src r=some pl
 pk:ptsK (jK x.chart).segments a.src r r.length=some pl
 rg:∀ i,i < r.length→0≤r.getD i 0∧r.getD i 0 < (jK x.chart).segments.length
 ml:(mL x a r).length=r.length
 mi:∀ i,i < r.length→1≤(mL x a r).getD i 0∧(mL x a r).getD i 0≤480
 sr:zGN (jK x.forecast) (jK x.chart) (zGP (jK x) a) a.src r m=some l
 hm:zC5 ((uL x a r).getD 0 []) m=true
 sl:slK (wL x a r) (mL x a r) (uL x a r) m (r.length - 1)=some l
 ll:l.length=r.length
 li:∀ i,i < r.length→0≤l.getD i 0∧l.getD i 0≤2880
 lo:m+zHA (mL x a r) (r.length - 1)≤l.getD (r.length - 1) 0
 ar:zFx (jK x.chart) (zGP (jK x) a) r l=l.getD (r.length - 1) 0+(mL x a r).getD (r.length - 1) 0
 ps:zFB (jK x.chart) a.ship (zGP (jK x) a) a.src r l=pasL (jK x.chart) a.ship (zGP (jK x) a) pl r l r.length
theorem zLZ {t b:Int} (h:t≤b):∀ {l:List DWindow} {w w':DWindow},(∀ w ∈ l,w.src≤w.dst)→l.find? (fun w=>decide (t≤w.dst))=some w→l.find? (fun w=>decide (b≤w.dst))=some w'→max w.src t≤max w'.src b
 | [],w,w',_,a,_=>by cases a
 | y :: l,w,w',c,a,h2=>by
  have g:=c y (qC ..)
  rw [List.find?_cons] at a h2
  by_cases d:t≤y.dst
  ·rw [JG d] at a
   obtain rfl:=Option.some.inj a
   by_cases f:b≤y.dst
   ·rw [JG f] at h2
    obtain rfl:=Option.some.inj h2
    omega
   ·omega
  ·rw [decide_eq_false d] at a
   rw [decide_eq_false (by omega)] at h2
   exact zLZ h (fun w e=>c w (qg _ e)) a h2
theorem zL0 {l:List DWindow} (h:zC4 l=true):∀ w ∈ l,0≤w.src∧w.src≤w.dst∧w.dst≤2880:=fun w b=>by
 obtain ⟨i,a,e⟩:=qL b
 have h2:=JE h i a
 rw [zC3,JD,wget a,e] at h2
 exact h2.1
theorem zL1 {l:List DWindow} {t b:Int} (h:t≤b) (a:¬ zC6 l t < 0) (h2:¬ zC6 l b < 0):zC6 l t≤zC6 l b:=by
 unfold zC6 at a h2 ⊢
 by_cases c:zC4 l=true
 ·rw [if_pos c] at a h2 ⊢
  rw [if_pos c]
  cases d:l.find? (fun w=>decide (t≤w.dst)) with
  | none=>rw [d] at a;exact absurd (show (-1:Int) < 0 by decide) a
  | some w =>
   cases e:l.find? (fun w=>decide (b≤w.dst)) with
   | none=>rw [e] at h2;exact absurd (show (-1:Int) < 0 by decide) h2
   | some w'=>exact zLZ h (fun w f=>(zL0 c w f).2.1) d e
 ·rw [if_neg c] at a;exact absurd (show (-1:Int) < 0 by decide) a
theorem zL2 {w:List Bool} {m:List Int} {u:List (List DWindow)} {st a:Int} (f:0≤st∧st≤2880) (b:0≤a∧a≤2880) (g:st≤a) (d:∀ i,i < m.length→1≤m.getD i 0∧m.getD i 0≤480):∀ {k:Nat} {l e:List Int},k≤m.length→slK w m u st k=some l→slK w m u a k=some e→∀ i,i≤k→l.getD i 0≤e.getD i 0
 | 0,l,e,_,h,h',i,q=>by
  rw [slK] at h h'
  rw [← Option.some.inj h,← Option.some.inj h',Nat.le_zero.1 q]
  exact g
 | k+1,l,e,z,h,h',i,q=>by
  rw [slK] at h h'
  obtain ⟨p,o,h⟩:=Option.bind_eq_some_iff.1 h
  obtain ⟨D,c,h'⟩:=Option.bind_eq_some_iff.1 h'
  have x:=zGH o
  have r:=zGH c
  have s:=zL2 f b g d (k:=k) (by omega) o c
  have F:=(zHC f d (k:=k) (by omega) o).2.1 k (qV _)
  have G:=(zHC b d (k:=k) (by omega) c).2.1 k (qV _)
  have y:=d k (by omega)
  have H:=s k (qV _)
  unfold zGC at h h'
  dsimp only at h h'
  rw [zjz (by omega)] at h h'
  split at h
  ·cases h
  ·rename_i t
   split at h'
   ·cases h'
   ·rename_i j
    rw [not_or] at t j
    rw [← Option.some.inj h,← Option.some.inj h']
    rcases wv k i with n|n
    ·obtain rfl:i=k+1:=by omega
     rw [zKu x,zKu r]
     exact zL1 (by omega) t.1 j.1
    ·rw [zKt (by omega),zKt (by omega)]
     exact s i n
theorem Voy.mono {x:DHarbour} {a:DCall} {r:List Int} {m b:Int} {pl l c d:List Int} (V:Voy x a r m pl l) (g:Voy x a r b c d) (h0:0≤m∧m≤2880) (e:0≤b∧b≤2880) (f:m≤b) (i:Nat) (h:i < r.length):l.getD i 0≤d.getD i 0 :=
 zL2 h0 e f (fun j k=>V.mi j (by have:=V.ml;omega)) (by have:=V.ml;omega) V.sl g.sl i (by omega)
def arrV (x:DHarbour) (a:DCall) (r l:List Int):Int:=l.getD (r.length - 1) 0+(mL x a r).getD (r.length - 1) 0
theorem Voy.opt {x:DHarbour} {a:DCall} {r:List Int} {m:Int} {pl l:List Int} (V:Voy x a r m pl l):zGX (jK x) a r m=(⟨m,arrV x a r l,zGV a.ready (arrV x a r l) (mL x a r),pasL (jK x.chart) a.ship (zGP (jK x) a) pl r l r.length⟩,decide (arrV x a r l≤2880)):=by
 have b:=V.sr
 have h2:=V.ar
 have c:=V.ps
 unfold zGX
 rw [show (jK x).forecast=jK x.forecast from rfl,show (jK x).chart=jK x.chart from rfl,b]
 dsimp only
 rw [zGW,show (jK x).chart=jK x.chart from rfl,h2,c]
 rfl
theorem Voy.cost {x:DHarbour} {a:DCall} {r:List Int} {m:Int} {pl l:List Int} (V:Voy x a r m pl l) (d:0≤a.ready∧a.ready≤2880):zGV a.ready (arrV x a r l) (mL x a r)=arrV x a r l - a.ready - zHA (mL x a r) r.length:=by
 have e:=V.n0
 have f:=V.li (r.length - 1) (by omega)
 have h2:=V.mi (r.length - 1) (by omega)
 have c:=V.ml
 have g:=V.n8
 have b:=zHD (m:=mL x a r) (fun i h=>V.mi i (by omega)) (by omega) (z:=arrV x a r l - a.ready) (by unfold arrV;omega) (k:=r.length) (by omega)
 rw [qy (by omega)] at b
 rw [zGV,zjz (by unfold arrV;omega),b]
theorem Voy.sum {x:DHarbour} {a:DCall} {r:List Int} {m:Int} {pl l:List Int} (V:Voy x a r m pl l):m+zHA (mL x a r) r.length≤arrV x a r l:=by
 have b:=V.lo
 have c:=V.n0
 obtain ⟨k,d⟩:∃ k,r.length=k+1:=⟨r.length - 1,by omega⟩
 have e:zHA (mL x a r) r.length=zHA (mL x a r) (r.length - 1)+(mL x a r).getD (r.length - 1) 0:=by
  rw [show zHA (mL x a r) r.length=zHA (mL x a r) (r.length - 1+1) by rw [show r.length - 1+1=r.length by omega]]
  rfl
 unfold arrV
 omega
theorem Voy.ends {x:DHarbour} {a:DCall} {r:List Int} {m:Int} {pl l:List Int} (V:Voy x a r m pl l) {i:Nat} (d:i < r.length):zB9 (jK x.chart) (zFz (jK x.chart) a.ship (zGP (jK x) a) pl r l i)=(pl.getD i 0,pl.getD (i+1) 0):=by
 have c:=zKw V.pk i d
 have b:=zKx c.2
 unfold zB9 zFz
 dsimp only
 rcases b with b|b
 ·rw [if_pos (by rw [beq_iff_eq];exact b.1),c.1,b.2]
  exact Prod.ext b.1.symm rfl
 ·rw [if_neg (by rw [beq_iff_eq];exact b.1),c.1,b.2.2]
  exact Prod.ext b.2.1.symm rfl
theorem zL3 {w:List Bool} {m:List Int} {u:List (List DWindow)} {st:Int}:∀ {k:Nat} {l:List Int},slK w m u st k=some l→∀ i,i < k→IntKind.i64.wrap (l.getD i 0+m.getD i 0) < l.getD (i+1) 0→w.getD (i+1) false=true
 | 0,_,_,i,c,_=>absurd c (qE i)
 | k+1,l,h,i,c,a=>by
  rw [slK] at h
  obtain ⟨p,d,h⟩:=Option.bind_eq_some_iff.1 h
  have g:=zGH d
  unfold zGC at h
  dsimp only at h
  split at h
  ·cases h
  ·rename_i f
   rw [not_or,not_and] at f
   have e:=Option.some.inj h
   rw [← e] at a
   rcases wv i k with b|b
   ·rw [zKt (by omega),zKt (by omega)] at a
    exact zL3 d i b a
   ·obtain rfl:i=k:=by omega
    rw [zKt (by omega),zKu g] at a
    have:=f.2 a
    rwa [Bool.not_eq_false] at this
theorem Voy.step {x:DHarbour} {a:DCall} {r:List Int} {m:Int} {pl l:List Int} (V:Voy x a r m pl l) {i:Nat} (b:i+1 < r.length):(zFz (jK x.chart) a.ship (zGP (jK x) a) pl r l i).fin≤l.getD (i+1) 0:=by
 have:=zKv V.sl i (by omega)
 rw [mL,zHF (by omega)] at this
 exact this
theorem Voy.wait {x:DHarbour} {a:DCall} {r:List Int} {m:Int} {pl l:List Int} (V:Voy x a r m pl l) {i:Nat} (c:i+1 < r.length) (h:(zFz (jK x.chart) a.ship (zGP (jK x) a) pl r l i).fin < l.getD (i+1) 0):((jK x.chart:PChart).points.getD (pl.getD (i+1) 0).toNat dP).wait=true:=by
 have b:=zL3 V.sl i (by omega) (by rw [mL,zHF (by omega)];exact h)
 rw [wL,zGw,ja,yC,List.getElem?_range c,V.rt] at b
 exact b
theorem Voy.fin {x:DHarbour} {a:DCall} {r:List Int} {m:Int} {pl l:List Int} (V:Voy x a r m pl l):zFx (jK x.chart) (zGP (jK x) a) r l=(zFz (jK x.chart) a.ship (zGP (jK x) a) pl r l (r.length - 1)).fin:=by
 have e:=V.n0
 rw [V.ar]
 have f:=V.li (r.length - 1) (by omega)
 have g:=V.mi (r.length - 1) (by omega)
 have b:=zHF (c:=jK x.chart) (s:=zGP (jK x) a) (r:=r) (n:=r.length) (i:=r.length - 1) (by omega)
 have d:zCa (zGP (jK x) a) ((jK x.chart:PChart).segments.getD (r.getD (r.length - 1) 0).toNat dG)=(mL x a r).getD (r.length - 1) 0:=b.symm
 show _=IntKind.i64.wrap (l.getD (r.length - 1) 0+zCa (zGP (jK x) a) ((jK x.chart:PChart).segments.getD (r.getD (r.length - 1) 0).toNat dG))
 rw [d,zjz (by omega)]
def Runs (p:Nat→Bool) (k:Nat) (l:List DWindow):Prop :=
 (∀ w ∈ l,0≤w.src∧w.src≤w.dst∧w.dst < k∧∀ j:Nat,w.src≤j→(j:Int)≤w.dst→p j=true)∧(∀ j:Nat,j < k→p j=true→∃ w ∈ l,w.src≤j∧(j:Int)≤w.dst)∧l.Pairwise fun a b=>a.dst+1 < b.src
theorem zL4 {l:List DSurge} (h:∀ i,i < l.length→zBa l i=true):(∀ y ∈ l,zAU y=true)∧l.Pairwise fun a b=>a.src < b.src:=by
 have d:∀ i (c:i < l.length),zAU l[i]=true∧(0 < i→(l.getD (i - 1) dS).src < l[i].src):=fun i c=>by
  have:=h i c
  rw [zBa,sget c,jJ,jd,qA,JH,JH] at this
  exact ⟨this.1,fun h0=>by omega⟩
 refine ⟨fun y e=>?_,List.pairwise_iff_getElem.2 fun i j c f k=>?_⟩
 ·obtain ⟨i,c,rfl⟩:=qL e
  exact (d i c).1
 ·induction j with
  | zero=>omega
  | succ j g =>
   have:=(d (j+1) f).2 (Nat.succ_pos _)
   rw [uW,sget (show j < l.length by omega)] at this
   rcases wv i j with h2|h2
   ·have:=g (by omega) h2;omega
   ·obtain rfl:i=j:=by omega
    exact this
theorem zL5 {f:PForecast} (h:zBb f=true):zA4 f.tide=true∧(0 < f.surges.length∧f.surges.length≤6)∧(f.surges.getD 0 dS).src=0∧(∀ y ∈ f.surges,zAU y=true)∧f.surges.Pairwise fun a b=>a.src < b.src:=by
 rw [zBb,In,jJ,jJ,jJ,jJ,JD,JD,JD,JD] at h
 obtain ⟨c,h2⟩:=zL4 h.2
 exact ⟨h.1.1.1,by omega,h.1.2,c,h2⟩
def zL6 (f:PForecast) (m:Int):DSurge:=f.surges.getD (zCF f.surges m) dS
theorem zL7 {f:PForecast} (h:zBb f=true) (m:Int):-500≤(zL6 f m).low∧(zL6 f m).low≤(zL6 f m).high∧(zL6 f m).high≤500:=by
 obtain ⟨_,h2,_,b,_⟩:=zL5 h
 have a:=zCH (m:=m) h2.1
 have:=b _ (qd a)
 rw [zL6,sget a]
 rw [zAU,In,In,In] at this
 simp only [jJ,JD] at this
 omega
theorem zL8 {f g:PForecast} {m a b:Int} (h:zLw f m a b=some g):zBb f=true∧(0≤m∧m≤2880)∧zBb g=true∧g={ f with surges:=revA f.surges m a b }:=by
 rw [zLw] at h
 split at h
 ·rename_i c
  split at h
  ·rename_i h2
   obtain rfl:=Option.some.inj h
   exact ⟨c.1,c.2,h2,rfl⟩
  ·cases h
 ·cases h
theorem zL9 {h:Hp}:jD h (⟨⟨0,⟨none,0,[]⟩⟩,⟨none,0,[]⟩⟩:DForecast):=by
 have a:I64 0:=by unfold I64;omega
 exact ⟨⟨a,znE⟩,znE⟩
set_option maxRecDepth 100000 in
theorem zMa (f:DForecast) (m u q:Int) (h:Hp) (R:jD h f) (hm:I64 m) (bm:I64 u) (bn:I64 q):Ct jV 111 [f.v,.int .i64 m,.int .i64 u,.int .i64 q] h fun v h'=>∃ g:DForecast,v=.tuple #[g.v,.bool (zLw (jK f) m u q).isSome]∧jK g=(zLw (jK f) m u q).getD ⟨⟨0,[]⟩,[]⟩∧jD h' g∧h.le h':=by
 refine zdn (fun A W=>by simp) Tryz.func111 rfl rfl (by simp) fun W0=>?_
 repeat' first|refine Wa ?_|refine zhF (fun _=>zBd f _ R) ?_|refine zhF (fun _=>zAA _ _ _ _) ?_|(simp only [go_sem,jq,jj,jy,jv,jk,jx];try rfl)|refine Wb ?_|fail
 refine zc9 rfl (fun Y=>?_) (fun Y=>?_)
 ·have hn:¬ (zBb (jK f)=true∧0≤m∧m≤2880):=fun ⟨K,h2,h3⟩=>by
   rw [K] at Y;simp [In,h2,h3] at Y
  have H:zLw (jK f) m u q=none:=by rw [zLw,if_neg hn]
  refine Wk ?_
  first|exact ⟨⟨⟨0,⟨none,0,[]⟩⟩,⟨none,0,[]⟩⟩,by rw [H];rfl,by rw [H];rfl,zL9,wW _⟩|exact ⟨⟨⟨0,⟨none,0,[]⟩⟩,⟨none,0,[]⟩⟩,by rw [H];rfl,by rw [H];rfl,zL9⟩
 have X:zBb (jK f)=true:=by
  cases h9:zBb (jK f) with
  | true=>rfl
  | false=>rw [h9] at Y;simp at Y
 have ae:0≤m∧m≤2880:=by
  rw [X] at Y;simp [In] at Y;omega
 obtain ⟨_,ag,am,_,an⟩:=zL5 X
 rw [zCL] at ag am an
 have hn:0 < f.surges.l.length:=ag.1
 have bp:=ag.2
 obtain ⟨w,ah⟩:∃ k,zCF f.surges.l m=k:=⟨_,rfl⟩
 have hs:w < f.surges.l.length:=by rw [← ah];exact zCH hn
 have hb:f.tide.parts.l.length≤4:=by
  have h9:=X
  simp only [zBb,zA4,In,jJ,JD] at h9
  rw [show (jK f).tide.parts=f.tide.parts.l from zA5 _] at h9
  omega
 refine Wk ?_
 refine zkr (zLs f.tide _ R.1 (by omega)) rfl ?_
 rintro v K z ⟨t,rfl,et,az,_⟩
 have a7:=jL (x:=f) z R
 have Z:∀ g,K g=none→h g=none:=fun g M=>by
  cases hh:h g with
  | none=>rfl
  | some o=>have:=z g o hh;rw [M] at this;cases this
 refine Wk ?_
 refine zhF (fun _=>zCR f m _ a7 hn) ?_
 rw [ah,sget hs]
 refine Evs ?_
 refine Wk ?_
 refine zFU (ι:=(Nat × Sl DSurge) × Hp) (fun i=>⟨[(1,true,.c (.v (.int .i64 m))),(2,true,.c (.v (.int .i64 u))),(3,true,.c (.v (.int .i64 q))),(4,true,.c (.p 0 0)),(8,true,.c (.p 1 0)),(9,true,.c (.v (.bool false))),(10,true,.c (.p 2 0)),(11,true,.c (.p 3 0)),(33,true,.c (.v f.surges.val)),(34,true,.c (.v (.int .i64 f.surges.l.length))),(35,true,.c (.v (.int .i64 i.1.1)))],[(0,.box 53 [.v (.int .i64 f.tide.mean),.v f.tide.parts.val,.v f.surges.val]),(1,.box 53 [.v (.int .i64 0),.v (.slice none 0 0),.v (.slice none 0 0)]),(2,.box 53 [.v (.int .i64 t.mean),.v t.parts.val,.v i.1.2.val]),(3,.box 125 [.v (.int .i64 f.surges.l[w].src),.v (.int .i64 f.surges.l[w].low),.v (.int .i64 f.surges.l[w].high)])],i.2,4⟩)
  (fun i=>i.1.1≤f.surges.l.length∧RowAt 125 i.2 i.1.2∧(∀ g,i.1.2.a=some ⟨g,0,none⟩→K g=none)∧K.le i.2∧i.1.2.l=(f.surges.l.take i.1.1).filter (fun s=>decide (s.src < m))) (fun i=>f.surges.l.length - i.1.1) ((0,⟨none,0,[]⟩),K) ⟨jC _,⟨qV _,jC _,.inl ⟨rfl,rfl,rfl⟩⟩,fun g M=>(by cases M),wW _,rfl⟩ [0,1,2,3] ?_ ?_
 ·refine Evs ?_
  exact Gk
 rintro ⟨⟨k,s⟩,hk⟩ ⟨ai,D,r,e,n⟩
 simp only at ai D r e n
 have F:=jL (x:=f) (jB z e) R
 have ao:s.l.length≤k:=by
  rw [n]
  have:=up (fun s:DSurge=>decide (s.src < m)) (f.surges.l.take k)
  rw [ww] at this
  omega
 refine Wk ?_
 refine zc9 rfl (fun hd=>?_) (fun hd=>?_)
 case refine_1 =>
  have b:=zjH hd
  repeat' first|refine Wa ?_|(simp only [go_sem,jq,jj,jy,jv,jk,jx,zk9 F.2 b,zm5 F.2 b,F.2.some b,b,jW];try rfl)|refine Wb ?_|fail
  refine zc9 rfl (fun d=>?_) (fun d=>?_)
  ·have d:=JE d
   first|refine zzr [0,0,0,0,3] rfl ?_|refine zzq [0,0,0,0,3] rfl ?_|(refine zc3 ?_;first|refine zzr [0,0,0,0,3] rfl ?_|refine zzq [0,0,0,0,3] rfl ?_)
   refine Evs ?_
   refine zD6 (s:=s) rfl D (fun g M=>.inl (Z g (r g M))) ?_
   refine Evs ?_
   refine ⟨rfl,by simp only [maxLen];omega,by omega,fun aa N h2 P2=>?_⟩
   have ap:Pub (zD4 hk s) 125 (wA DSurge) (s.l ++ [f.surges.l[k]]).length ((s.l ++ [f.surges.l[k]]).flatMap qx) aa N h2:=by
    rw [jP,jF];exact P2
   obtain ⟨R2,f2,_⟩:=ap.row
   obtain ⟨a8,bd⟩:=pubF (l:=s.l) D e r ap
   have bf:(Sl.mk aa N (s.l ++ [f.surges.l[k]])).val=.slice aa (s.l.length+1) N:=by simp only [Sl.val,jP,jg]
   try simp only [go_sem,jq,jj,jy,jv,jk,jx]
   refine Wk ?_
   refine ⟨((k+1,⟨aa,N,s.l ++ [f.surges.l[k]]⟩),h2),[0,1,2,3],⟨b,R2,bd,a8,?_⟩,by simp only;omega,?_⟩
   ·show s.l ++ [f.surges.l[k]]=_
    rw [n,qw b,yQ,uc (by simpa using d),List.filter_nil]
   simp only [go_sem,jq,jj,jy,jv,jk,jx,bf,zjA b (by omega)]
   exact Gk
  ·have d:=JF d
   refine Wk ?_
   refine ⟨((k+1,s),hk),[0,1,2,3],⟨b,D,r,e,?_⟩,by simp only;omega,?_⟩
   ·show s.l=_
    rw [n,qw b,yQ,Jk (by simpa using d),List.filter_nil,yJ]
   simp only [go_sem,jq,jj,jy,jv,jk,jx,zjA b (by omega)]
   exact Gk
 have aj:=zjI hd
 rw [qy aj] at n
 obtain ⟨G,rfl⟩:∃ G,G=s:=⟨_,rfl⟩
 have aq:=n
 have ao:G.l.length≤6:=by
  rw [aq]
  have:=up (fun s:DSurge=>decide (s.src < m)) f.surges.l
  omega
 refine zc6 ?_
 refine Evs ?_
 repeat' first|refine zc8 ?_|(refine zc5 ?_;simp only [go_sem,jq,jj,jy,jv,jk,jx])|refine zc3 ?_
 (first|refine zie rfl ?_|refine zc4 rfl ?_|(refine zc3 ?_;first|refine zie rfl ?_|refine zc4 rfl ?_));simp only [go_sem,jq,jj,jy,jv,jk,jx]
 repeat' first|refine zc8 ?_|(refine zc5 ?_;simp only [go_sem,jq,jj,jy,jv,jk,jx])|refine zc3 ?_
 refine zz5 rfl ?_
 refine U_t [0,2,3,4,1] rfl ?_
 simp only [go_sem,jq,jj,jy,jv,jk,jx,je,jA,zza,zzb]
 refine U_1 5 0 [1,0] rfl rfl ?_
 simp only [go_sem,jq,jj,jy,jv,jk,jx,je,jA,zza,zzb]
 refine zhF (fun _=>zLq ⟨m,f.surges.l[w].low,f.surges.l[w].high⟩ u q _) ?_
 refine Evs ?_
 refine U_1 6 0 [1,0] rfl rfl ?_
 simp only [go_sem,jq,jj,jy,jv,jk,jx,je,jA,zza,zzb]
 refine U_1 7 3 [] rfl rfl ?_
 simp only [go_sem,jq,jj,jy,jv,jk,jx,je,jA,zza,zzb]
 refine zD6 (s:=G) rfl D (fun g M=>.inl (Z g (r g M))) ?_
 refine Evs ?_
 refine ⟨rfl,by simp only [maxLen];omega,by omega,fun ab O h3 P3=>?_⟩
 have au:Pub (zD4 hk G) 125 (wA DSurge) (G.l ++ [(⟨m,max f.surges.l[w].low u,min f.surges.l[w].high q⟩:DSurge)]).length ((G.l ++ [(⟨m,max f.surges.l[w].low u,min f.surges.l[w].high q⟩:DSurge)]).flatMap qx) ab O h3:=by
  rw [jP,jF];exact P3
 obtain ⟨R3,f3,_⟩:=au.row
 obtain ⟨ak,bg⟩:=pubF (l:=G.l) D e r au
 have av:(Sl.mk ab O (G.l ++ [(⟨m,max f.surges.l[w].low u,min f.surges.l[w].high q⟩:DSurge)])).val=.slice ab (G.l.length+1) O:=by simp only [Sl.val,jP,jg]
 try simp only [go_sem,jq,jj,jy,jv,jk,jx,av]
 refine U_t [8] rfl ?_
 simp only [go_sem,jq,jj,jy,jv,jk,jx,je,jA,zza,zzb]
 refine U_1 9 0 [] rfl rfl ?_
 simp only [go_sem,jq,jj,jy,jv,jk,jx,je,jA,zza,zzb]
 refine U_d ?_
 refine Wk ?_
 have ak:K.le h3:=ak
 refine zFU (ι:=(Nat × Sl DSurge) × Hp) (fun i=>⟨[(1,true,.c (.v (.int .i64 m))),(8,true,.c (.p 1 0)),(9,true,.c (.v (.bool false))),(10,true,.c (.p 2 0)),(62,true,.c (.v f.surges.val)),(63,true,.c (.v (.int .i64 f.surges.l.length))),(64,true,.c (.v (.int .i64 i.1.1)))],[(0,.box 53 [.v (.int .i64 f.tide.mean),.v f.tide.parts.val,.v f.surges.val]),(1,.box 53 [.v (.int .i64 0),.v (.slice none 0 0),.v (.slice none 0 0)]),(2,.box 53 [.v (.int .i64 t.mean),.v t.parts.val,.v i.1.2.val])],i.2,3⟩)
  (fun i=>i.1.1≤f.surges.l.length∧RowAt 125 i.2 i.1.2∧(∀ g,i.1.2.a=some ⟨g,0,none⟩→K g=none)∧K.le i.2∧i.1.2.l=(f.surges.l.filter (fun s=>decide (s.src < m)) ++ [(⟨m,max f.surges.l[w].low u,min f.surges.l[w].high q⟩:DSurge)]) ++ (f.surges.l.take i.1.1).filter (fun s=>decide (m < s.src))) (fun i=>f.surges.l.length - i.1.1) ((0,⟨ab,O,G.l ++ [(⟨m,max f.surges.l[w].low u,min f.surges.l[w].high q⟩:DSurge)]⟩),h3) ⟨jC _,R3,bg,ak,by rw [aq];simp⟩ [0,1,2] ?_ ?_
 ·simp only [go_sem,jq,jj,jy,jv,jk,jx,av]
  exact Gk
 rintro ⟨⟨k,s⟩,hk⟩ ⟨ai,D,r,e,n⟩
 simp only at ai D r e n
 have F:=jL (x:=f) (jB z e) R
 have ao:s.l.length≤7+k:=by
  rw [n];rw [jP,jP,jg];have bq:=up (fun s:DSurge=>decide (s.src < m)) f.surges.l
  have:=up (fun s:DSurge=>decide (m < s.src)) (f.surges.l.take k)
  rw [ww] at this
  omega
 refine Wk ?_
 refine zc9 rfl (fun hd=>?_) (fun hd=>?_)
 case refine_1 =>
  have b:=zjH hd
  repeat' first|refine Wa ?_|(simp only [go_sem,jq,jj,jy,jv,jk,jx,zk9 F.2 b,zm5 F.2 b,F.2.some b,b,jW];try rfl)|refine Wb ?_|fail
  refine zc9 rfl (fun d=>?_) (fun d=>?_)
  ·have d:=JE d
   first|refine zzr [0,0,0,0,3] rfl ?_|refine zzq [0,0,0,0,3] rfl ?_|(refine zc3 ?_;first|refine zzr [0,0,0,0,3] rfl ?_|refine zzq [0,0,0,0,3] rfl ?_)
   refine Evs ?_
   refine zD6 (s:=s) rfl D (fun g M=>.inl (Z g (r g M))) ?_
   refine Evs ?_
   refine ⟨rfl,by simp only [maxLen];omega,by omega,fun ac Q h4 P4=>?_⟩
   have aw:Pub (zD4 hk s) 125 (wA DSurge) (s.l ++ [f.surges.l[k]]).length ((s.l ++ [f.surges.l[k]]).flatMap qx) ac Q h4:=by
    rw [jP,jF];exact P4
   obtain ⟨R4,f4,_⟩:=aw.row
   obtain ⟨bh,bi⟩:=pubF (l:=s.l) D e r aw
   have bj:(Sl.mk ac Q (s.l ++ [f.surges.l[k]])).val=.slice ac (s.l.length+1) Q:=by simp only [Sl.val,jP,jg]
   try simp only [go_sem,jq,jj,jy,jv,jk,jx]
   refine Wk ?_
   refine ⟨((k+1,⟨ac,Q,s.l ++ [f.surges.l[k]]⟩),h4),[0,1,2],⟨b,R4,bi,bh,?_⟩,by simp only;omega,?_⟩
   ·show s.l ++ [f.surges.l[k]]=_
    rw [n,qw b,yQ,yx,uc (by simpa using d),List.filter_nil]
   simp only [go_sem,jq,jj,jy,jv,jk,jx,bj,zjA b (by omega)]
   exact Gk
  ·have d:=JF d
   refine Wk ?_
   refine ⟨((k+1,s),hk),[0,1,2],⟨b,D,r,e,?_⟩,by simp only;omega,?_⟩
   ·show s.l=_
    rw [n,qw b,yQ,Jk (by simpa using d),List.filter_nil,yJ]
   simp only [go_sem,jq,jj,jy,jv,jk,jx,zjA b (by omega)]
   exact Gk
 have aj:=zjI hd
 rw [qy aj] at n
 have bk:s.l=revA f.surges.l m u q:=by
  rw [zLv hn (by rw [← sget hn,am];exact ae.1) (fun i j q hj bl=>List.pairwise_iff_getElem.1 an i j q hj bl),revB,ah,sget hs,n]
 have ax:jD hk (⟨t,s⟩:DForecast):=⟨jL e az,D.ok (by decide) fun y J=>by
  rw [n] at J
  rcases List.mem_append.1 J with J|J
  ·rcases List.mem_append.1 J with J|J
   ·exact jL (jB z e) (R.2.2.2.2.1 y (List.mem_filter.1 J).1)
   ·rw [List.mem_singleton.1 J]
    obtain ⟨q1,q2,q3⟩:=R.2.2.2.2.1 _ (qd hs)
    unfold I64 at *
    exact ⟨by unfold I64;omega,by unfold I64;show _≤max _ _∧max _ _≤_;omega,by unfold I64;show _≤min _ _∧min _ _≤_;omega⟩
  ·exact jL (jB z e) (R.2.2.2.2.1 y (List.mem_filter.1 J).1)⟩
 have al:jK (⟨t,s⟩:DForecast)=({ (jK f:PForecast) with surges:=revA (jK f:PForecast).surges m u q }:PForecast):=by
  rw [zlb,zCL,← bk,show jK t=(jK f:PForecast).tide from et]
  congr 1
  exact ux _
 refine Wk ?_
 refine zhF (fun _=>zBd (⟨t,s⟩:DForecast) _ ax) ?_
 refine Evs ?_
 refine zc9 rfl (fun d=>?_) (fun d=>?_)
 ·have d:zBb (jK (⟨t,s⟩:DForecast))=false:=by simpa using d
  have H:zLw (jK f) m u q=none:=by
   rw [al] at d
   rw [zLw,if_pos ⟨X,ae⟩,if_neg (by rw [d];exact qa)]
  refine Wk ?_
  exact ⟨⟨⟨0,⟨none,0,[]⟩⟩,⟨none,0,[]⟩⟩,by rw [H];rfl,by rw [H];rfl,zL9,jB z e⟩
 ·have d:zBb (jK (⟨t,s⟩:DForecast))=true:=by simpa using d
  have H:zLw (jK f) m u q=some (jK (⟨t,s⟩:DForecast)):=by
   rw [al] at d
   rw [zLw,if_pos ⟨X,ae⟩,if_pos d,al]
  refine Wk ?_
  exact ⟨⟨t,s⟩,by rw [H];rfl,by rw [H];rfl,ax,jB z e⟩
def zMb (x:PHarbour) (m lo hi:Int):Option PHarbour:=match zLw x.forecast m lo hi with
 | some g=>if zBF x=true then some { x with forecast:=g } else none
 | none=>none
def zMc:PHarbour:=⟨⟨⟨0,[]⟩,[]⟩,⟨[],[]⟩,[],⟨0,false⟩,⟨0,0,0,[]⟩⟩
theorem News.right {h h':Hp} {A B:List Nat} (H:News h h' (A ++ B)):News h h' B:=⟨fun b a=>H.1 b (yb _ a),(List.nodup_append.1 H.2).2.1⟩
theorem zMd {x:DHarbour} (h:zBF (jK x)=true):Lens x:=by
 rw [zBV] at h
 simp only [zBb,zA4,zBq,zBB,zBE,zBD,In,jJ,JD] at h
 rw [show (jK x.forecast).tide.parts=_ from zA5 _,zCL,show (jK x.crew).moves=x.crew.moves.l from ux _] at h
 refine ⟨?_,?_,?_,?_,?_,?_⟩ <;> omega
theorem zMe {h h':Hp}:Mine h h' (⟨⟨⟨0,⟨none,0,[]⟩⟩,⟨none,0,[]⟩⟩,⟨⟨none,0,[]⟩,⟨none,0,[]⟩⟩,⟨none,0,[]⟩,⟨0,false⟩,⟨0,0,0,⟨none,0,[]⟩⟩⟩:DHarbour) :=
 Mine.flat rfl ⟨(zLK (h:=h) (h':=h')).1,⟨(Mine.nil (α:=DPoint) (h:=h) (h':=h') (a:=none) (c:=0)).1,(Mine.nil (α:=DSegment) (h:=h) (h':=h') (a:=none) (c:=0)).1⟩,(Mine.nil (α:=DShip) (h:=h) (h':=h') (a:=none) (c:=0)).1,(Mine.nil (α:=Int) (h:=h) (h':=h') (a:=none) (c:=0)).1⟩
theorem zMf {h:Hp}:jD h (⟨⟨⟨0,⟨none,0,[]⟩⟩,⟨none,0,[]⟩⟩,⟨⟨none,0,[]⟩,⟨none,0,[]⟩⟩,⟨none,0,[]⟩,⟨0,false⟩,⟨0,0,0,⟨none,0,[]⟩⟩⟩:DHarbour):=by
 have a:I64 0:=by unfold I64;omega
 exact ⟨⟨⟨a,znE⟩,znE⟩,⟨znE,znE⟩,znE,a,⟨a,a,a,znE⟩⟩
set_option maxRecDepth 100000 in
theorem zMg (x:DHarbour) (m b c:Int) (h:Hp) (s:jD h x) (H:I64 m) (t:I64 b) (u:I64 c):Ct jV 45 [x.v,.int .i64 m,.int .i64 b,.int .i64 c] h fun v h'=>∃ y:DHarbour,v=.tuple #[y.v,.bool (zMb (jK x) m b c).isSome]∧jK y=(zMb (jK x) m b c).getD zMc∧jD h' y∧Mine h h' y:=by
 refine zdn (fun A W=>by simp) Tryz.func45 rfl rfl (by simp) fun W0=>?_
 refine Wk ?_
 refine zkr (zLL x.forecast m b c _ s.1 H t u) rfl ?_
 rintro v J p ⟨g,rfl,k,q,w⟩
 have e:=jL (x:=x) p s
 have a:∀ o,zLw (jK x.forecast) m b c=o→zMb (jK x) m b c=(match o with|some g=>if zBF (jK x)=true then some { (jK x:PHarbour) with forecast:=g } else none|none=>none):=fun o h=>by subst h;rfl
 obtain ⟨o,z⟩:∃ o,zLw (jK x.forecast) m b c=o:=⟨_,rfl⟩
 replace a:=a o z
 rw [z] at k ⊢
 cases o with
 | none =>
  simp only [go_sem,jq,jj,jy,jv,jk,jx,yG]
  repeat' first|refine Wa ?_|refine zhF (fun _=>zBX x _ e) ?_|(simp only [go_sem,jq,jj,jy,jv,jk,jx];try rfl)|refine Wb ?_|fail
  refine zc9 rfl (fun i=>?_) (fun i=>?_)
  case refine_2=>cases i
  refine Wk ?_
  exact ⟨⟨⟨⟨0,⟨none,0,[]⟩⟩,⟨none,0,[]⟩⟩,⟨⟨none,0,[]⟩,⟨none,0,[]⟩⟩,⟨none,0,[]⟩,⟨0,false⟩,⟨0,0,0,⟨none,0,[]⟩⟩⟩,by rw [a];rfl,by rw [a];rfl,zMf,zMe⟩
 | some r =>
  have k:jK g=r:=k
  simp only [go_sem,jq,jj,jy,jv,jk,jx,jX]
  repeat' first|refine Wa ?_|refine zhF (fun _=>zBX x _ e) ?_|(simp only [go_sem,jq,jj,jy,jv,jk,jx];try rfl)|refine Wb ?_|fail
  refine zc9 rfl (fun i=>?_) (fun i=>?_)
  ·have l:¬ zBF (jK x)=true:=by simpa using i
   have a:zMb (jK x) m b c=none:=by rw [a];exact if_neg l
   refine Wk ?_
   exact ⟨⟨⟨⟨0,⟨none,0,[]⟩⟩,⟨none,0,[]⟩⟩,⟨⟨none,0,[]⟩,⟨none,0,[]⟩⟩,⟨none,0,[]⟩,⟨0,false⟩,⟨0,0,0,⟨none,0,[]⟩⟩⟩,by rw [a];rfl,by rw [a];rfl,zMf,zMe⟩
  ·have l:zBF (jK x)=true:=by simpa using i
   have a:zMb (jK x) m b c=some { (jK x:PHarbour) with forecast:=r }:=by rw [a];exact if_pos l
   refine Wk ?_
   refine zkr (zLo x _ e (zMd l)) rfl ?_
   rintro v h2 j ⟨d,rfl,K,f,n⟩
   refine Wk ?_
   have D:qj d=qj d.forecast ++ (qj d.chart ++ (qj d.fleet ++ qj d.crew)):=by
    show ((_ ++ _) ++ _) ++ _=_
    rw [yx,yx]
   have M:News J h2 (qj d.chart ++ (qj d.fleet ++ qj d.crew)):=by
    have F:=n.news
    rw [D] at F;exact News.right F
   have G:qj (⟨g,d.chart,d.fleet,d.regime,d.crew⟩:DHarbour)=qj g ++ (qj d.chart ++ (qj d.fleet ++ qj d.crew)):=by
    show ((_ ++ _) ++ _) ++ _=_
    rw [yx,yx]
   refine ⟨⟨g,d.chart,d.fleet,d.regime,d.crew⟩,by rw [a];rfl,?_,⟨jL j q,f.2.1,f.2.2.1,f.2.2.2.1,f.2.2.2.2⟩,News.mine ⟨(Mine.on j q w).1,n.1.2.1,n.1.2.2.1,n.1.2.2.2⟩ (by rw [G];exact w.news.append p j M)⟩
   rw [a]
   show _={ (jK x:PHarbour) with forecast:=r }
   rw [← K,zlq,k,zlq]
set_option maxRecDepth 100000 in
theorem zMh (c:DHarbour) (h:Hp) (hc:jD h c) (hz:Lens c):Ct jV 112 [c.v] h fun v h'=>∃ d:DHarbour,v=d.v∧jK d=jK c∧jD h' d∧h.le h':=by
 obtain ⟨⟨ac,q⟩,⟨aj,aa⟩,X,ak,⟨o1,o2,o3,Y⟩⟩:=hc
 obtain ⟨ax,bk,bl,bm,bn,bp⟩:=hz
 refine zdn (fun A W=>by simp) Tryz.func112 rfl rfl (by simp) fun W0=>?_
 refine Wk ?_
 refine zFS (ι:=(DTide × Sl DSurge) × Hp) (fun i=>⟨[(1,true,.c (.p 0 0)),(2,true,.c (.p 1 0))],[(0,.box 62 [.v (.int .i64 i.1.1.mean),.v i.1.1.parts.val,.v i.1.2.val,.v c.chart.points.val,.v c.chart.segments.val,.v c.fleet.val,.v (.int .i64 c.regime.gap),.v (.bool c.regime.noMeet),.v (.int .i64 c.crew.tugs),.v (.int .i64 c.crew.pilots),.v (.int .i64 c.crew.rest),.v c.crew.moves.val]),(1,.box 62 [.v (.int .i64 0),.v (.slice none 0 0),.v (.slice none 0 0),.v (.slice none 0 0),.v (.slice none 0 0),.v (.slice none 0 0),.v (.int .i64 0),.v (.bool false),.v (.int .i64 0),.v (.int .i64 0),.v (.int .i64 0),.v (.slice none 0 0)])],i.2,2⟩)
  (fun i=>h.le i.2∧jK i.1.1=jK c.forecast.tide∧jD i.2 i.1.1∧i.1.2.l=c.forecast.surges.l∧i.1.2.Ok i.2) ?_ ?_
 ·refine zz5 rfl ?_
  refine U_t [0,5,1,6,2,7] rfl ?_
  refine Evs ?_
  refine U_m 3 [4] ⟨?_,?_,trivial⟩
  ·refine U_b 3 0 [7,6,5] rfl rfl ?_
   refine Evs ?_
   refine zkr (zLs c.forecast.tide _ ac ax) rfl ?_
   rintro v h1 N ⟨t,rfl,et,Z,_⟩
   have g:h1.ldL c.forecast.surges.val 3=some (c.forecast.surges.l.flatMap qx):=(q.mono N).all (by decide)
   try simp only [go_sem,jq,jj,jy,jv,jk,jx]
   refine U_1 4 0 [7,6,5] rfl rfl ?_
   simp only [go_sem,jq,jj,jy,jv,jk,jx,g,jX,jc,JA,jb,jG]
   refine U_1 8 0 [] rfl rfl ?_
   simp only [go_sem,jq,jj,jy,jv,jk,jx,g,jX,jc,JA,jb,jG]
   refine ⟨fun u r=>by obtain ⟨x,_,a⟩:=List.mem_flatMap.1 r;exact uD x u a,by simp only [maxLen];omega,by omega,?_⟩
   try simp only [go_sem,jq,jj,jy,jv,jk,jx]
   (first|refine zFO 3 c.forecast.surges.l rfl rfl rfl rfl fun ae ag O ah ao G ap=>?_|refine zFO 2 c.forecast.surges.l rfl rfl rfl rfl fun ae ag O ah ao G ap=>?_)
   try simp only [go_sem,jq,jj,jy,jv,jk,jx]
   refine U_1 9 0 [] rfl rfl ?_
   simp only [go_sem,jq,jj,jy,jv,jk,jx,g,jX,jc,JA,jb,jG]
   refine U_t [10] rfl ?_
   simp only [go_sem,jq,jj,jy,jv,jk,jx,g,jX,jc,JA,jb,jG]
   refine U_1 11 0 [] rfl rfl ?_
   simp only [go_sem,jq,jj,jy,jv,jk,jx,g,jX,jc,JA,jb,jG]
   refine U_d ?_
   refine ⟨((t,ae),ag),[0,1],⟨jB N G,et,jL G Z,O,ah.ok (by decide) fun x a=>by rw [O] at a;exact jL (jB N G) (q.2.2.2.1 x a)⟩,?_⟩
   exact Gk
  ·refine U_b 4 0 [7,2,6,1,5,0] rfl rfl ?_
   refine Evs ?_
   refine U_1 3 0 [7,6,5] rfl rfl ?_
   refine Evs ?_
   refine zkr (zLs c.forecast.tide _ ac ax) rfl ?_
   rintro v h1 N ⟨t,rfl,et,Z,_⟩
   have g:h1.ldL c.forecast.surges.val 3=some (c.forecast.surges.l.flatMap qx):=(q.mono N).all (by decide)
   try simp only [go_sem,jq,jj,jy,jv,jk,jx]
   refine U_1 8 0 [] rfl rfl ?_
   simp only [go_sem,jq,jj,jy,jv,jk,jx,g,jX,jc,JA,jb,jG]
   refine ⟨fun u r=>by obtain ⟨x,_,a⟩:=List.mem_flatMap.1 r;exact uD x u a,by simp only [maxLen];omega,by omega,?_⟩
   try simp only [go_sem,jq,jj,jy,jv,jk,jx]
   (first|refine zFO 3 c.forecast.surges.l rfl rfl rfl rfl fun ae ag O ah ao G ap=>?_|refine zFO 2 c.forecast.surges.l rfl rfl rfl rfl fun ae ag O ah ao G ap=>?_)
   try simp only [go_sem,jq,jj,jy,jv,jk,jx]
   refine U_1 9 0 [] rfl rfl ?_
   simp only [go_sem,jq,jj,jy,jv,jk,jx,g,jX,jc,JA,jb,jG]
   refine U_t [10] rfl ?_
   simp only [go_sem,jq,jj,jy,jv,jk,jx,g,jX,jc,JA,jb,jG]
   refine U_1 11 0 [] rfl rfl ?_
   simp only [go_sem,jq,jj,jy,jv,jk,jx,g,jX,jc,JA,jb,jG]
   refine U_d ?_
   refine ⟨((t,ae),ag),[0,1],⟨jB N G,et,jL G Z,O,ah.ok (by decide) fun x a=>by rw [O] at a;exact jL (jB N G) (q.2.2.2.1 x a)⟩,?_⟩
   exact Gk
 rintro ⟨⟨t,s0⟩,h2⟩ ⟨am,et,Z,e0,az⟩
 simp only at am et Z e0 az
 have k:=aj.mono am
 have e:=aa.mono am
 have m:h2.ldL c.chart.points.val 2=some (c.chart.points.l.flatMap qx):=k.all (by decide)
 refine zc3 ?_
 refine zFS (ι:=(Sl DPoint × Sl DSegment) × Hp) (fun i=>⟨[(1,true,.c (.p 0 0)),(2,true,.c (.p 1 0))],[(0,.box 62 [.v (.int .i64 t.mean),.v t.parts.val,.v s0.val,.v i.1.1.val,.v i.1.2.val,.v c.fleet.val,.v (.int .i64 c.regime.gap),.v (.bool c.regime.noMeet),.v (.int .i64 c.crew.tugs),.v (.int .i64 c.crew.pilots),.v (.int .i64 c.crew.rest),.v c.crew.moves.val]),(1,.box 62 [.v (.int .i64 0),.v (.slice none 0 0),.v (.slice none 0 0),.v (.slice none 0 0),.v (.slice none 0 0),.v (.slice none 0 0),.v (.int .i64 0),.v (.bool false),.v (.int .i64 0),.v (.int .i64 0),.v (.int .i64 0),.v (.slice none 0 0)])],i.2,2⟩)
  (fun i=>h2.le i.2∧i.1.1.l=c.chart.points.l∧i.1.1.Ok i.2∧i.1.2.l=c.chart.segments.l∧i.1.2.Ok i.2) ?_ ?_
 ·refine zz5 rfl ?_
  refine U_t [1,6,2,7,3,8] rfl ?_
  simp only [go_sem,jq,jj,jy,jv,jk,jx,m,jX,jc,JA,jb,jG]
  refine U_m 0 [5] ⟨?_,?_,trivial⟩
  ·refine U_b 0 0 [8,3,7,2,6,1] rfl rfl ?_
   simp only [go_sem,jq,jj,jy,jv,jk,jx,m,jX,jc,JA,jb,jG]
   refine U_m 4 [5] ⟨?_,?_,trivial⟩
   ·refine U_b 4 0 [8,7,6] rfl rfl ?_
    simp only [go_sem,jq,jj,jy,jv,jk,jx,m,jX,jc,JA,jb,jG]
    refine ⟨fun u r=>by obtain ⟨x,_,a⟩:=List.mem_flatMap.1 r;exact uD x u a,by simp only [maxLen];omega,by omega,?_⟩
    try simp only [go_sem,jq,jj,jy,jv,jk,jx]
    (first|refine zFO 3 c.chart.points.l rfl rfl rfl rfl fun s w n y H f J=>?_|refine zFO 4 c.chart.points.l rfl rfl rfl rfl fun s w n y H f J=>?_|refine zFO 2 c.chart.points.l rfl rfl rfl rfl fun s w n y H f J=>?_)
    have b:w.ldL c.chart.segments.val 5=some (c.chart.segments.l.flatMap qx):=(e.mono f).all (by decide)
    try simp only [go_sem,jq,jj,jy,jv,jk,jx]
    refine U_1 5 0 [8,7,6] rfl rfl ?_
    simp only [go_sem,jq,jj,jy,jv,jk,jx,b,jX,jc,JA,jb,jG]
    refine U_1 9 0 [] rfl rfl ?_
    simp only [go_sem,jq,jj,jy,jv,jk,jx,b,jX,jc,JA,jb,jG]
    refine ⟨fun u r=>by obtain ⟨x,_,a⟩:=List.mem_flatMap.1 r;exact uD x u a,by simp only [maxLen];omega,by omega,?_⟩
    try simp only [go_sem,jq,jj,jy,jv,jk,jx]
    (first|refine zFO 5 c.chart.segments.l rfl rfl rfl rfl fun z D o F K j M=>?_|refine zFO 4 c.chart.segments.l rfl rfl rfl rfl fun z D o F K j M=>?_|refine zFO 3 c.chart.segments.l rfl rfl rfl rfl fun z D o F K j M=>?_)
    try simp only [go_sem,jq,jj,jy,jv,jk,jx]
    refine U_1 10 0 [] rfl rfl ?_
    simp only [go_sem,jq,jj,jy,jv,jk,jx,b,jX,jc,JA,jb,jG]
    refine U_t [11] rfl ?_
    simp only [go_sem,jq,jj,jy,jv,jk,jx,b,jX,jc,JA,jb,jG]
    refine U_1 12 0 [] rfl rfl ?_
    simp only [go_sem,jq,jj,jy,jv,jk,jx,b,jX,jc,JA,jb,jG]
    refine U_d ?_
    refine ⟨((s,z),D),[0,1],⟨jB f j,n,(y.ok (by decide) fun x a=>by rw [n] at a;exact jL f (k.2.2.2.1 x a)).mono j,o,F.ok (by decide) fun x a=>by rw [o] at a;exact jL (jB f j) (e.2.2.2.1 x a)⟩,?_⟩
    exact Gk
   ·refine U_b 5 0 [8,3,7,2,6,1] rfl rfl ?_
    simp only [go_sem,jq,jj,jy,jv,jk,jx,m,jX,jc,JA,jb,jG]
    refine U_1 4 0 [8,7,6] rfl rfl ?_
    simp only [go_sem,jq,jj,jy,jv,jk,jx,m,jX,jc,JA,jb,jG]
    refine ⟨fun u r=>by obtain ⟨x,_,a⟩:=List.mem_flatMap.1 r;exact uD x u a,by simp only [maxLen];omega,by omega,?_⟩
    try simp only [go_sem,jq,jj,jy,jv,jk,jx]
    (first|refine zFO 3 c.chart.points.l rfl rfl rfl rfl fun s w n y H f J=>?_|refine zFO 4 c.chart.points.l rfl rfl rfl rfl fun s w n y H f J=>?_|refine zFO 2 c.chart.points.l rfl rfl rfl rfl fun s w n y H f J=>?_)
    have b:w.ldL c.chart.segments.val 5=some (c.chart.segments.l.flatMap qx):=(e.mono f).all (by decide)
    try simp only [go_sem,jq,jj,jy,jv,jk,jx]
    refine U_1 9 0 [] rfl rfl ?_
    simp only [go_sem,jq,jj,jy,jv,jk,jx,b,jX,jc,JA,jb,jG]
    refine ⟨fun u r=>by obtain ⟨x,_,a⟩:=List.mem_flatMap.1 r;exact uD x u a,by simp only [maxLen];omega,by omega,?_⟩
    try simp only [go_sem,jq,jj,jy,jv,jk,jx]
    (first|refine zFO 5 c.chart.segments.l rfl rfl rfl rfl fun z D o F K j M=>?_|refine zFO 4 c.chart.segments.l rfl rfl rfl rfl fun z D o F K j M=>?_|refine zFO 3 c.chart.segments.l rfl rfl rfl rfl fun z D o F K j M=>?_)
    try simp only [go_sem,jq,jj,jy,jv,jk,jx]
    refine U_1 10 0 [] rfl rfl ?_
    simp only [go_sem,jq,jj,jy,jv,jk,jx,b,jX,jc,JA,jb,jG]
    refine U_t [11] rfl ?_
    simp only [go_sem,jq,jj,jy,jv,jk,jx,b,jX,jc,JA,jb,jG]
    refine U_1 12 0 [] rfl rfl ?_
    simp only [go_sem,jq,jj,jy,jv,jk,jx,b,jX,jc,JA,jb,jG]
    refine U_d ?_
    refine ⟨((s,z),D),[0,1],⟨jB f j,n,(y.ok (by decide) fun x a=>by rw [n] at a;exact jL f (k.2.2.2.1 x a)).mono j,o,F.ok (by decide) fun x a=>by rw [o] at a;exact jL (jB f j) (e.2.2.2.1 x a)⟩,?_⟩
    exact Gk
  ·refine U_b 5 0 [8,3,7,2,6,1] rfl rfl ?_
   simp only [go_sem,jq,jj,jy,jv,jk,jx,m,jX,jc,JA,jb,jG]
   refine U_1 0 0 [8,3,7,2,6,1] rfl rfl ?_
   simp only [go_sem,jq,jj,jy,jv,jk,jx,m,jX,jc,JA,jb,jG]
   refine U_1 4 0 [8,7,6] rfl rfl ?_
   simp only [go_sem,jq,jj,jy,jv,jk,jx,m,jX,jc,JA,jb,jG]
   refine ⟨fun u r=>by obtain ⟨x,_,a⟩:=List.mem_flatMap.1 r;exact uD x u a,by simp only [maxLen];omega,by omega,?_⟩
   try simp only [go_sem,jq,jj,jy,jv,jk,jx]
   (first|refine zFO 3 c.chart.points.l rfl rfl rfl rfl fun s w n y H f J=>?_|refine zFO 4 c.chart.points.l rfl rfl rfl rfl fun s w n y H f J=>?_|refine zFO 2 c.chart.points.l rfl rfl rfl rfl fun s w n y H f J=>?_)
   have b:w.ldL c.chart.segments.val 5=some (c.chart.segments.l.flatMap qx):=(e.mono f).all (by decide)
   try simp only [go_sem,jq,jj,jy,jv,jk,jx]
   refine U_1 9 0 [] rfl rfl ?_
   simp only [go_sem,jq,jj,jy,jv,jk,jx,b,jX,jc,JA,jb,jG]
   refine ⟨fun u r=>by obtain ⟨x,_,a⟩:=List.mem_flatMap.1 r;exact uD x u a,by simp only [maxLen];omega,by omega,?_⟩
   try simp only [go_sem,jq,jj,jy,jv,jk,jx]
   (first|refine zFO 5 c.chart.segments.l rfl rfl rfl rfl fun z D o F K j M=>?_|refine zFO 4 c.chart.segments.l rfl rfl rfl rfl fun z D o F K j M=>?_|refine zFO 3 c.chart.segments.l rfl rfl rfl rfl fun z D o F K j M=>?_)
   try simp only [go_sem,jq,jj,jy,jv,jk,jx]
   refine U_1 10 0 [] rfl rfl ?_
   simp only [go_sem,jq,jj,jy,jv,jk,jx,b,jX,jc,JA,jb,jG]
   refine U_t [11] rfl ?_
   simp only [go_sem,jq,jj,jy,jv,jk,jx,b,jX,jc,JA,jb,jG]
   refine U_1 12 0 [] rfl rfl ?_
   simp only [go_sem,jq,jj,jy,jv,jk,jx,b,jX,jc,JA,jb,jG]
   refine U_d ?_
   refine ⟨((s,z),D),[0,1],⟨jB f j,n,(y.ok (by decide) fun x a=>by rw [n] at a;exact jL f (k.2.2.2.1 x a)).mono j,o,F.ok (by decide) fun x a=>by rw [o] at a;exact jL (jB f j) (e.2.2.2.1 x a)⟩,?_⟩
   exact Gk
 rintro ⟨⟨s1,s2⟩,h3⟩ ⟨an,e1,a7,e2,a8⟩
 simp only at an e1 a7 e2 a8
 have ab:=jB am an
 have av:h3.ldL c.fleet.val 6=some (c.fleet.l.flatMap qx):=(X.mono ab).all (by decide)
 repeat' first|refine zc8 ?_|(refine zc5 ?_;simp only [go_sem,jq,jj,jy,jv,jk,jx])|refine zc3 ?_
 first|refine zzr [0,0,0,2,0,0] rfl ?_|refine zzq [0,0,0,2,0,0] rfl ?_|(refine zc3 ?_;first|refine zzr [0,0,0,2,0,0] rfl ?_|refine zzq [0,0,0,2,0,0] rfl ?_)
 simp only [go_sem,jq,jj,jy,jv,jk,jx,av,jX,jc,JA,jb,jG]
 refine ⟨fun u r=>by obtain ⟨x,_,a⟩:=List.mem_flatMap.1 r;exact uD x u a,by simp only [maxLen];omega,by omega,fun ai Q h4 P4=>?_⟩
 have bd:Pub h3 157 (wA DShip) c.fleet.l.length (c.fleet.l.flatMap qx) ai Q h4:=P4
 obtain ⟨R4,f4,_⟩:=bd.row
 have aq:h3.le h4:=bd.le
 have bq:(Sl.mk ai Q c.fleet.l).val=.slice ai c.fleet.l.length Q:=rfl
 have aw:h4.ldL c.crew.moves.val 1=some (c.crew.moves.l.flatMap qx):=(Y.mono (jB ab aq)).all (by decide)
 try simp only [go_sem,jq,jj,jy,jv,jk,jx]
 repeat' first|refine zc8 ?_|(refine zc5 ?_;simp only [go_sem,jq,jj,jy,jv,jk,jx])|refine zc3 ?_
 first|refine zzr [0,0,0,0,2,0,0,0] rfl ?_|refine zzq [0,0,0,0,2,0,0,0] rfl ?_|(refine zc3 ?_;first|refine zzr [0,0,0,0,2,0,0,0] rfl ?_|refine zzq [0,0,0,0,2,0,0,0] rfl ?_)
 simp only [go_sem,jq,jj,jy,jv,jk,jx,aw,jX,jc,JA,jb,jG]
 refine ⟨fun u r=>by obtain ⟨x,_,a⟩:=List.mem_flatMap.1 r;exact uD x u a,by simp only [maxLen];omega,by omega,fun au al h5 P5=>?_⟩
 have bf:Pub h4 3 (wA Int) c.crew.moves.l.length (c.crew.moves.l.flatMap qx) au al h5:=P5
 obtain ⟨R5,f5,_⟩:=bf.row
 have bg:h4.le h5:=bf.le
 try simp only [go_sem,jq,jj,jy,jv,jk,jx]
 refine Wk ?_
 have R:=jB aq bg
 have bh:=jB ab R
 have bi:(Sl.mk ai Q c.fleet.l).Ok h5:=(R4.ok (by decide) fun x a=>jL (jB ab aq) (X.2.2.2.1 x a)).mono bg
 have bj:(Sl.mk au al c.crew.moves.l).Ok h5:=R5.ok (by decide) fun x a=>Y.2.2.2.1 x a
 exact ⟨⟨⟨t,s0⟩,⟨s1,s2⟩,⟨ai,Q,c.fleet.l⟩,c.regime,⟨c.crew.tugs,c.crew.pilots,c.crew.rest,⟨au,al,c.crew.moves.l⟩⟩⟩,rfl,by rw [zlq,zlq,zlb,zlb,zlj,zlj,zk1,zk1,et];simp only [zkz,e0,e1,e2],
  ⟨⟨jL (jB an R) Z,az.mono (jB an R)⟩,⟨a7.mono R,a8.mono R⟩,bi,ak,⟨o1,o2,o3,bj⟩⟩,bh⟩
set_option maxRecDepth 100000 in
theorem zMi (x:DHarbour) (m b c:Int) (h:Hp) (n:jD h x) (F:I64 m) (s:I64 b) (t:I64 c):Ct jV 44 [x.v,.int .i64 m,.int .i64 b,.int .i64 c] h fun v h'=>∃ y:DHarbour,v=.tuple #[y.v,.bool (zMb (jK x) m b c).isSome]∧jK y=(zMb (jK x) m b c).getD zMc∧jD h' y∧h.le h':=by
 refine zdn (fun A W=>by simp) Tryz.func44 rfl rfl (by simp) fun W0=>?_
 repeat' first|refine Wa ?_|refine zhF (fun _=>zBW x _ n) ?_|(simp only [go_sem,jq,jj,jy,jv,jk,jx];try rfl)|refine Wb ?_|fail
 refine zc9 rfl (fun e=>?_) (fun e=>?_)
 ·have k:¬ zBF (jK x)=true:=by simpa using e
  have a:zMb (jK x) m b c=none:=by
   rw [zMb]
   split
   ·exact if_neg k
   ·rfl
  refine Wk ?_
  first|exact ⟨⟨⟨⟨0,⟨none,0,[]⟩⟩,⟨none,0,[]⟩⟩,⟨⟨none,0,[]⟩,⟨none,0,[]⟩⟩,⟨none,0,[]⟩,⟨0,false⟩,⟨0,0,0,⟨none,0,[]⟩⟩⟩,by rw [a];rfl,by rw [a];rfl,zMf,wW _⟩|exact ⟨⟨⟨⟨0,⟨none,0,[]⟩⟩,⟨none,0,[]⟩⟩,⟨⟨none,0,[]⟩,⟨none,0,[]⟩⟩,⟨none,0,[]⟩,⟨0,false⟩,⟨0,0,0,⟨none,0,[]⟩⟩⟩,by rw [a];rfl,by rw [a];rfl,zMf⟩
 have k:zBF (jK x)=true:=by simpa using e
 refine Wk ?_
 refine zkr (zMa x.forecast m b c _ n.1 F s t) rfl ?_
 rintro v G i ⟨g,rfl,j,u,_⟩
 have o:=jL (x:=x) i n
 cases l:zLw (jK x.forecast) m b c with
 | none =>
  have a:zMb (jK x) m b c=none:=by rw [zMb,show (jK x:PHarbour).forecast=jK x.forecast from rfl,l]
  simp only [go_sem,jq,jj,jy,jv,jk,jx,yG]
  refine Wk ?_
  refine zc9 rfl (fun e=>?_) (fun e=>?_)
  case refine_2=>cases e
  refine Wk ?_
  exact ⟨⟨⟨⟨0,⟨none,0,[]⟩⟩,⟨none,0,[]⟩⟩,⟨⟨none,0,[]⟩,⟨none,0,[]⟩⟩,⟨none,0,[]⟩,⟨0,false⟩,⟨0,0,0,⟨none,0,[]⟩⟩⟩,by rw [a];rfl,by rw [a];rfl,zMf,i⟩
 | some p =>
  rw [l] at j
  have j:jK g=p:=j
  have a:zMb (jK x) m b c=some { (jK x:PHarbour) with forecast:=p }:=by
   rw [zMb,show (jK x:PHarbour).forecast=jK x.forecast from rfl,l];exact if_pos k
  obtain ⟨_,_,w,_⟩:=zL8 l
  have z:zBF (jK ({ x with forecast:=g }:DHarbour))=true:=by
   have f:=k
   rw [zBV] at f ⊢
   simp only [jJ] at f ⊢
   refine ⟨⟨⟨⟨?_,f.1.1.1.2⟩,f.1.1.2⟩,f.1.2⟩,f.2⟩
   show zBb (jK g)=true
   rw [j];exact w
  have q:jD G ({ x with forecast:=g }:DHarbour):=⟨u,o.2⟩
  simp only [go_sem,jq,jj,jy,jv,jk,jx,jX]
  refine Wk ?_
  refine zc9 rfl (fun e=>?_) (fun e=>?_)
  ·cases e
  refine Wk ?_
  refine zhF (fun _=>zLr x g _) ?_
  refine Evs ?_
  refine zkr (zMh ({ x with forecast:=g }:DHarbour) _ q (zMd z)) rfl ?_
  rintro v h2 J ⟨d,rfl,H,D,r⟩
  refine Wk ?_
  refine ⟨d,by rw [a];rfl,?_,D,jB i r⟩
  rw [a,H]
  show jK ({ x with forecast:=g }:DHarbour)={ (jK x:PHarbour) with forecast:=p }
  rw [zlq,zlq,j]
def zMj (f:PForecast) (m:Int):Int × Int × Bool:=if zBb f=true∧0≤m∧m≤2880 then ((zL6 f m).low,(zL6 f m).high,true) else (0,0,false)
theorem zMk {f:PForecast} {m:Int} (h:¬ (zBb f=true∧0≤m∧m≤2880)):(zBb f && (decide (0≤m) && decide (m≤2880)))=false:=by
 rw [Bool.eq_false_iff]
 intro a
 rw [jJ,jJ,JD,JD] at a
 exact h a
set_option maxRecDepth 100000 in
theorem zMl (f:DForecast) (m:Int) (h:Hp) (b:jD h f):Ct jV 72 [f.v,.int .i64 m] h fun v h'=>v=.tuple #[.int .i64 (zMj (jK f) m).1,.int .i64 (zMj (jK f) m).2.1,.bool (zMj (jK f) m).2.2]∧h'=h:=by
 by_cases e:zBb (jK f)=true∧0≤m∧m≤2880
 case neg =>
  rw [zMj,if_neg e]
  refine zdn (fun A W=>by simp) Tryz.func72 rfl rfl (by simp) fun W0=>?_
  repeat' first|refine Wa ?_|refine zhF (fun _=>zBe f _ b) ?_|refine zhF (fun _=>zAC _ _) ?_|(simp only [go_sem,jq,jj,jy,jv,jk,jx];try rfl)|refine Wb ?_|fail
  refine zc9 rfl (fun g=>?_) (fun g=>?_)
  ·exact Wk0
  ·have:=zMk e
   rw [← jd,Bool.not_and,Bool.not_and] at this
   simp_all
 rw [zMj,if_pos e]
 have i:=e.1
 have n:(0≤m)=True:=eq_true e.2.1
 have o:(m≤2880)=True:=eq_true e.2.2
 have p:0 < f.surges.l.length:=by have:=zCK i;rwa [zCL] at this
 have j:zL6 (jK f) m=f.surges.l.getD (zCF f.surges.l m) dS:=by rw [zL6,zCL]
 obtain ⟨k,d⟩:∃ k,zCF f.surges.l m=k:=⟨_,rfl⟩
 have a:k < f.surges.l.length:=by rw [← d];exact zCH p
 rw [j,d,sget a]
 have c:(k:Int) < f.surges.l.length:=by omega
 refine zdn (fun A W=>by simp) Tryz.func72 rfl rfl (by simp) fun W0=>?_
 repeat' first|refine Wa ?_|refine zhF (fun _=>zBe f _ b) ?_|refine zhF (fun _=>zAC _ _) ?_|(simp only [go_sem,jq,jj,jy,jv,jk,jx];try rfl)|refine Wb ?_|fail
 simp only [go_sem,jq,jj,jy,jv,jk,jx,i,n,o,decide_true,wj,wC,wJ]
 refine zc9 rfl (fun g=>?_) (fun g=>?_)
 ·cases g
 refine Wk ?_
 refine zz5 rfl ?_
 refine U_t [0,2,3,1] rfl ?_
 simp only [go_sem,jq,jj,jy,jv,jk,jx,d,je,jA,zza,zzb,zk9 b.2 a,b.2.some a,a,c,jW,jY,Jg,JA,JB,JC]
 refine U_m 4 [7] ⟨?_,?_,trivial⟩
 ·refine U_b 4 0 [1,0] rfl rfl ?_
  simp only [go_sem,jq,jj,jy,jv,jk,jx,d,je,jA,zza,zzb,zk9 b.2 a,b.2.some a,a,c,jW,jY,Jg,JA,JB,JC]
  refine zhF (fun _=>zCQ f m _ b) ?_
  simp only [go_sem,jq,jj,jy,jv,jk,jx,d,je,jA,zza,zzb,zk9 b.2 a,b.2.some a,a,c,jW,jY,Jg,JA,JB,JC]
  refine U_t [5,6] rfl ?_
  simp only [go_sem,jq,jj,jy,jv,jk,jx,d,je,jA,zza,zzb,zk9 b.2 a,b.2.some a,a,c,jW,jY,Jg,JA,JB,JC]
  refine U_1 7 0 [6,5,1,0] rfl rfl ?_
  simp only [go_sem,jq,jj,jy,jv,jk,jx,d,je,jA,zza,zzb,zk9 b.2 a,b.2.some a,a,c,jW,jY,Jg,JA,JB,JC]
  refine U_1 8 0 [] rfl rfl ?_
  simp only [go_sem,jq,jj,jy,jv,jk,jx,d,je,jA,zza,zzb,zk9 b.2 a,b.2.some a,a,c,jW,jY,Jg,JA,JB,JC]
  refine U_d ?_
  repeat' first|refine zc8 ?_|(refine zc5 ?_;simp only [go_sem,jq,jj,jy,jv,jk,jx])|refine zc3 ?_
  refine zz5 rfl ?_
  refine U_t [0,2,1,3,4,5,6] rfl ?_
  simp only [go_sem,jq,jj,jy,jv,jk,jx,d,je,jA,zza,zzb,zk9 b.2 a,b.2.some a,a,c,jW,jY,Jg,JA,JB,JC]
  refine U_d ?_
  exact Wk0
 ·refine U_b 7 0 [1,2,0] rfl rfl ?_
  simp only [go_sem,jq,jj,jy,jv,jk,jx,d,je,jA,zza,zzb,zk9 b.2 a,b.2.some a,a,c,jW,jY,Jg,JA,JB,JC]
  refine U_1 4 0 [1,0] rfl rfl ?_
  simp only [go_sem,jq,jj,jy,jv,jk,jx,d,je,jA,zza,zzb,zk9 b.2 a,b.2.some a,a,c,jW,jY,Jg,JA,JB,JC]
  refine zhF (fun _=>zCQ f m _ b) ?_
  simp only [go_sem,jq,jj,jy,jv,jk,jx,d,je,jA,zza,zzb,zk9 b.2 a,b.2.some a,a,c,jW,jY,Jg,JA,JB,JC]
  refine U_t [5,6] rfl ?_
  simp only [go_sem,jq,jj,jy,jv,jk,jx,d,je,jA,zza,zzb,zk9 b.2 a,b.2.some a,a,c,jW,jY,Jg,JA,JB,JC]
  refine U_1 8 0 [] rfl rfl ?_
  simp only [go_sem,jq,jj,jy,jv,jk,jx,d,je,jA,zza,zzb,zk9 b.2 a,b.2.some a,a,c,jW,jY,Jg,JA,JB,JC]
  refine U_d ?_
  repeat' first|refine zc8 ?_|(refine zc5 ?_;simp only [go_sem,jq,jj,jy,jv,jk,jx])|refine zc3 ?_
  refine zz5 rfl ?_
  refine U_t [0,2,1,3,4,5,6] rfl ?_
  simp only [go_sem,jq,jj,jy,jv,jk,jx,d,je,jA,zza,zzb,zk9 b.2 a,b.2.some a,a,c,jW,jY,Jg,JA,JB,JC]
  refine U_d ?_
  exact Wk0
theorem zMm {α:Type} {l:List α} {i:Nat} {d:α} (h:i < l.length):l.getD i d=l[i]:=by simp [ja,h]
theorem zMn {α:Type} {l:List α} {i:Nat} {d:α} (h:l.length≤i):l.getD i d=d:=by simp [ja,h]
theorem zMo {L:List (List POption)} {ch:List Int} (c:∀ l ∈ L,∀ y ∈ l,Sz.sz y≤8):∀ {k:Nat} {p:List POption},plGo L ch k=some p→p.length=k∧∀ y ∈ p,Sz.sz y≤8
 | 0,p,h=>by rw [plGo] at h;cases h;exact ⟨rfl,fun y a=>by cases a⟩
 | k+1,p,h=>by
  rw [plGo] at h
  obtain ⟨q,f,h⟩:=Option.bind_eq_some_iff.1 h
  rw [zLM] at h
  split at h
  ·rename_i j
   obtain rfl:=Option.some.inj h
   obtain ⟨g,h2⟩:=zMo c f
   refine ⟨by rw [jP,g];rfl,fun y a=>?_⟩
   rcases List.mem_append.1 a with a|a
   ·exact h2 y a
   ·rw [List.mem_singleton.1 a]
    have b:(ch.getD k 0).toNat < (L.getD k []).length:=by omega
    rw [zMm b]
    refine c (L.getD k []) ?_ _ (qd b)
    by_cases e:k < L.length
    ·rw [zMm e];exact qd e
    ·rw [zMn (l:=L) (i:=k) (d:=[]) (by omega)] at b;exact absurd b (qE _)
  ·cases h
theorem zMp {x:PHarbour} {a:List DCall} {ch:List Int}:(zLN x a ch).1.length≤6∧∀ y ∈ (zLN x a ch).1,Sz.sz y≤8:=by
 rw [zLN]
 split
 ·rename_i e
  have d:=zKM (Bool.and_eq_true_iff.1 e).1
  cases f:plGo (zKH x a) ch a.length with
  | none=>exact ⟨jC _,fun y b=>by cases b⟩
  | some s =>
   obtain ⟨g,h2⟩:=zMo (fun l d y b=>by
    rw [zKH] at d
    obtain ⟨c,-,rfl⟩:=List.mem_map.1 d
    exact (zHq).2 y b) f
   exact ⟨by rw [oLB];simp only;omega,h2⟩
 ·exact ⟨jC _,fun y b=>by cases b⟩
theorem zMq (x:DHarbour) (a:Sl DCall) (m:Sl Int) (h:Hp) (b:jD h x) (c:a.Ok h) (d:m.Ok h):Ct jV 40 [x.v,a.val,m.val] h fun v h'=>∃ s:Sl DOption,v=.tuple #[s.val,.bool (zLN (jK x) (jK a) (jK m)).2]∧jK s=(zLN (jK x) (jK a) (jK m)).1∧s.Ok h'∧Mine h h' s:=by
 have e:(jK a:List DCall)=a.l:=ux _
 have h2:(jK m:List Int)=m.l:=ux _
 rw [e,h2]
 exact zLW x a m h b c d
theorem zMr (x:DHarbour) (a:Sl DCall) (m:Sl Int) (h:Hp) (b:jD h x) (c:a.Ok h) (d:m.Ok h):Ct jV 39 [x.v,a.val,m.val] h fun v h'=>∃ s:Sl DOption,v=.tuple #[s.val,.bool (zLN (jK x) (jK a) (jK m)).2]∧jK s=(zLN (jK x) (jK a) (jK m)).1∧s.Ok h'∧Mine h h' s:=by
 have e:(jK a:List DCall)=a.l:=ux _
 have h2:(jK m:List Int)=m.l:=ux _
 rw [e,h2]
 exact zLX x a m h b c d
end Go.Proofs.YtbkaaakphpbmiaaGreat
