/- What functions of the given program compute, as contracts. -/
import Derived.Test.YtbkaaakphpbmiaaGreatSGBestPlanx7
import Derived.Test.YtbkaaakphpbmiaaGreatXGBestPlan10
import Derived.Test.YtbkaaakphpbmiaaGreatXGBestPlan16
import Derived.Test.YtbkaaakphpbmiaaGreatXGBestPlan21
import Derived.Test.YtbkaaakphpbmiaaGreatXGBestPlan9
set_option linter.unusedVariables false
set_option linter.unusedSimpArgs false
set_option maxRecDepth 4000
open Nat renaming reduceAdd → jq, reduceMul → jj, reduceBEq → jy, reduceLeDiff → jv, reduceLT → jk, reduceEqDiff → jx
open Bool renaming or_eq_false_iff → jp, or_eq_true → jQ, and_eq_true → jJ
open Int renaming toNat_natCast → jW, natCast_nonneg → jY
open Go.Proofs.Tryz renaming prog → jV
namespace Go.Proofs.YtbkaaakphpbmiaaGreat
open Go Go.SL
set_option maxHeartbeats 1000000
theorem z0d (x:DHarbour) (a:DCall) (r:Sl Int) (st:Int) (h:Hp) (hx:Enc.ok h x) (ha:Enc.ok h a) (hr:r.Ok h) (hst:I64 st) (hz:Sz.sz (Con.con r)≤1048576):Ct jV 33 [x.v,a.v,r.val,.int .i64 st] h fun v h'=>∃ q:DOption,v=.tuple #[q.v,.bool (zyR (Con.con x) (Con.con a) (Con.con r) st).2]∧Con.con q=(zyR (Con.con x) (Con.con a) (Con.con r) st).1∧Enc.ok h' q∧Mine h h' q:=by
 have hz2:r.l.length≤1048576:=by
  have:=zmv hz
  rwa [con_ints] at this
 rw [con_ints]
 exact zyV x a r st h hx ha hr hst hz2
theorem z0e (x:DHarbour) (a:DCall) (r:Sl Int) (st:Int) (h:Hp) (hx:Enc.ok h x) (ha:Enc.ok h a) (hr:r.Ok h) (hst:I64 st) (hz:Sz.sz (Con.con r)≤1048576):Ct jV 32 [x.v,a.v,r.val,.int .i64 st] h fun v h'=>∃ q:DOption,v=.tuple #[q.v,.bool (zyR (Con.con x) (Con.con a) (Con.con r) st).2]∧Con.con q=(zyR (Con.con x) (Con.con a) (Con.con r) st).1∧Enc.ok h' q∧Mine h h' q:=by
 have hz2:r.l.length≤1048576:=by
  have:=zmv hz
  rwa [con_ints] at this
 rw [con_ints]
 exact z0c x a r st h hx ha hr hst hz2
theorem zyZ {α:Type} [Enc α] [Foot α] {h h' h2:Hp} {l:List α} (hle:h'.le h2) (hok:∀ x ∈ l,Enc.ok h' x) (H:Mines h h' l):Mines h h2 l :=
 ⟨fun x hx=>(Foot.loc (hok x hx) (H.1 x hx) fun b _ o ho=>hle b o ho).2,H.2.1,H.2.2⟩
def zy0 (opt:Int→POption × Bool) (due:Int):Nat→Int→List POption→List POption
 | 0,_,acc=>acc
 | f+1,s,acc=>if s≤due∧acc.length < 8 then zy0 opt due f (IntKind.i64.wrap (s+15)) (if (opt s).2=true then acc ++ [(opt s).1] else acc) else acc
def zy1 (x:PHarbour) (a:DCall):List POption:=if zvB x a=true then (match zyd x.chart a.src a.dst with|none=>[]|some r=>zy0 (zyJ x a r) a.due 200 a.ready []) else []
theorem zy2 {g:List DSegment} {a:Int} {r r2:List Int}:∀ {k:Nat},(∀ i,i < k→r.getD i 0=r2.getD i 0)→ptsK g a r k=ptsK g a r2 k
 | 0,_=>rfl
 | k+1,h=>by rw [ptsK,ptsK,zy2 (fun i hi=>h i (by omega)),h k (by omega)]
theorem zy3 {g:List DSegment} {a to:Int}:∀ {f:Nat} {pts0 r0:List Int},ptsK g a r0 r0.length=some pts0→∀ r ∈ zxV g to f pts0 r0,∃ pts,ptsK g a r r.length=some pts∧pts.getLast?.getD 0=to
 | 0,pts0,r0,h0,r,hr=>by cases hr
 | f+1,pts0,r0,h0,r,hr=>by
  unfold zxV at hr
  split at hr
  ·rename_i hl
   rw [List.mem_singleton.1 hr]
   exact ⟨pts0,h0,hl⟩
  ·obtain ⟨i,hi,hr⟩:=List.mem_flatMap.1 hr
   have hi:=List.mem_range.1 hi
   unfold wkAt at hr
   split at hr
   ·rename_i hc
    refine zy3 (f:=f) ?_ r hr
    have h1:ptsK g a (r0 ++ [(i:Int)]) r0.length=some pts0:=by
     rw [zy2 (r2:=r0) (fun j hj=>by rw [List.getD_eq_getElem?_getD,List.getElem?_append_left hj,← List.getD_eq_getElem?_getD]),h0]
    rw [List.length_append,List.length_singleton,ptsK,h1,Option.bind_some]
    have hg:(r0 ++ [(i:Int)]).getD r0.length 0=(i:Int):=by simp
    rw [hg,zwT,if_pos (by omega),jW]
    have hc1:¬ (zwS (g.getD i dG) (pts0.getLast?.getD 0) < 0∨zwS (g.getD i dG) (pts0.getLast?.getD 0) ∈ pts0):=by
     rw [not_or]
     have:=hc.1
     unfold zxU at this
     exact ⟨by omega,hc.2⟩
    rw [if_neg hc1];rfl
   ·cases hr
theorem zy4 {x:DHarbour} {a:DCall} {r:List Int} (hok:zvB (Con.con x) a=true) (hb:zyd (Con.con x.chart) a.src a.dst=some r):cvOk (Con.con x) a r=true:=by
 obtain ⟨hfo,hch,⟨hsi,hsh,hso⟩,hs0,hs1,ha0,ha1,hb0,hb1,hne,_⟩:=zyE hok
 have hm:r ∈ zx8 (Con.con x.chart) a.src a.dst:=zye (acc:=none) (fun y hy=>by cases hy) (fun y hy=>hy) hb
 rw [zx8] at hm
 split at hm
 ·rename_i hin
  obtain ⟨pts,h1,h2⟩:=zy3 (a:=a.src) (pts0:=[a.src]) (r0:=[]) rfl r hm
  have hlen:=zw4 h1
  have hpts:zwV (Con.con x.chart) a.src r=some pts:=by
   rw [zxh hch,zxd (by rw [zwZ];exact ⟨ha0,ha1⟩),h1]
  have hR:zxf (Con.con x.chart) a.src r=true:=by rw [zxf,hpts];rfl
  have h0:0 < r.length:=by
   rcases Nat.eq_zero_or_pos r.length with e|e
   ·exfalso
    rw [e,ptsK] at h1
    rw [← Option.some.inj h1] at h2
    exact hne h2
   ·exact e
  have hld:zyC (Con.con x) a r=true:=by
   rw [zyC,show (Con.con x).chart=Con.con x.chart from rfl,hpts]
   dsimp only
   rw [← zw7 hlen,h2,decide_eq_true rfl]
  rw [cvOk,hld,show (Con.con x).forecast=Con.con x.forecast from rfl,show (Con.con x).chart=Con.con x.chart from rfl,zyF hok,hR,decide_eq_true h0];rfl
 ·cases hm
theorem zy5 {x:PHarbour} {a:DCall} (h:zvB x a=false):zy1 x a=[]:=by rw [zy1,if_neg (by rw [h];exact Bool.false_ne_true)]
theorem zy6 {opt:Int→POption × Bool} {due:Int}:∀ {f:Nat} {s:Int} {acc:List POption},¬ (s≤due∧acc.length < 8)→zy0 opt due f s acc=acc
 | 0,_,_,_=>rfl
 | f+1,s,acc,h=>by rw [zy0,if_neg h]
theorem zy7 (l:List DOption):(l.map Con.con).length=l.length:=List.length_map ..
set_option maxRecDepth 30000 in
theorem zy8 (x:DHarbour) (a:DCall) (h:Hp) (hx:Enc.ok h x) (ha:Enc.ok h a):Ct jV 91 [x.v,a.v] h fun v h'=>∃ s:Sl DOption,v=s.val∧s.l.map Con.con=zy1 (Con.con x) a∧s.Ok h'∧Mine h h' s:=by
 refine zdn (fun A W=>by simp) Tryz.func91 rfl rfl (by simp) fun W0=>?_
 repeat' first|refine Wa ?_|refine zhF (fun _=>zvE x a _ hx ha) ?_|(simp only [go_sem,jq,jj,jy,jv,jk,jx];try rfl)|refine Wb ?_|fail
 refine zc9 rfl (fun hq=>?_) (fun hq=>?_)
 ·rw [Bool.not_eq_true'] at hq
  rw [zy5 (x:=Con.con x) (a:=a) hq]
  refine Wk ?_
  exact ⟨⟨none,0,[]⟩,rfl,rfl,zmo,Mine.nil⟩
 rw [Bool.not_eq_false'] at hq
 have hok:zvB (Con.con x) a=true:=hq
 obtain ⟨_,_,_,_,_,_,_,_,_,_,hrd0,hrd1,hrd2,hdue⟩:=zyE hok
 refine Wk ?_
 refine zkj (zyj x.chart a.src a.dst _ hx.2.1 ha.2.1) rfl ?_
 rintro v h1 le1 ⟨r,rfl,er,okr⟩
 have hx1:Enc.ok h1 x:=Enc.mono le1 hx
 have ha1:Enc.ok h1 a:=Enc.mono le1 ha
 have hrz:r.l.length≤1048576:=by
  rw [er]
  cases hb:zyd (Con.con x.chart) a.src a.dst with
  | none=>exact Nat.zero_le _
  | some y=>have:=zyf hb;show y.length≤_;omega
 refine Wk ?_
 refine zkj (zyG x a r _ hx1 ha1 okr hrz hok) rfl ?_
 rintro v h2 le2 ⟨w,m,u,rfl,ow,om,ou,hl⟩
 cases hb:zyd (Con.con x.chart) a.src a.dst with
 | none =>
  have hF:zy1 (Con.con x) a=[]:=by rw [zy1,if_pos hok,show (Con.con x).chart=Con.con x.chart from rfl,hb]
  rw [hF]
  refine Wk ?_
  refine zc9 rfl (fun hq=>?_) (fun hq=>?_)
  case refine_2=>simp at hq
  refine Wk ?_
  exact ⟨⟨none,0,[]⟩,rfl,rfl,zmo,Mine.nil⟩
 | some rl =>
 rw [hb] at er
 have er:r.l=rl:=er
 have hcv:cvOk (Con.con x) a r.l=true:=by rw [er];exact zy4 hok hb
 have hl:=hl hcv
 have hv:voOk (Con.con x.forecast) (Con.con x.chart) (zyD (Con.con x) a) a.src r.l=true:=by
  rw [cvOk,jJ] at hcv;exact hcv.2
 have le12:=Hp.le_trans le1 le2
 have hx2:Enc.ok h2 x:=Enc.mono le2 hx1
 have ha2:Enc.ok h2 a:=Enc.mono le2 ha1
 have okr2:=okr.mono le2
 rw [hcv]
 refine Wk ?_
 refine zc9 rfl (fun hq=>?_) (fun hq=>?_)
 ·simp at hq
 refine Wk ?_
 have hF:zy1 (Con.con x) a=zy0 (zyJ (Con.con x) a r.l) a.due 200 a.ready []:=by
  rw [zy1,if_pos hok,show (Con.con x).chart=Con.con x.chart from rfl,hb,er]
 obtain ⟨G,hG⟩:∃ G,zy0 (zyJ (Con.con x) a r.l) a.due 200 a.ready []=G:=⟨_,rfl⟩
 rw [hF,hG]
 refine zl0 (ι:=Nat × Int × List DOption × Hp) (fun i=>⟨[(2,true,.c (.p 0 0)),(3,true,.c (.p 1 0)),(4,true,.c (.v (.slice none 0 0))),(5,true,.c (.v r.val)),(7,true,.c (.p 2 0)),(9,true,.c (.s 3)),(10,true,.c (.v (.int .i64 i.2.1)))],[(0,.box 62 [.v (.int .i64 x.forecast.tide.mean),.v x.forecast.tide.parts.val,.v x.forecast.surges.val,.v x.chart.points.val,.v x.chart.segments.val,.v x.fleet.val,.v (.int .i64 x.regime.gap),.v (.bool x.regime.noMeet),.v (.int .i64 x.crew.tugs),.v (.int .i64 x.crew.pilots),.v (.int .i64 x.crew.rest),.v x.crew.moves.val]),(1,.box 79 [.v (.int .i64 a.ship),.v (.int .i64 a.src),.v (.int .i64 a.dst),.v (.int .i64 a.ready),.v (.int .i64 a.due)]),(2,.box 162 [.v w.val,.v m.val,.v u.val]),(3,.row 84 4 i.2.2.1.length (i.2.2.1.flatMap Enc.enc))],i.2.2.2,4⟩) (fun i=>zy0 (zyJ (Con.con x) a r.l) a.due i.1 i.2.1 (i.2.2.1.map Con.con)=G∧(0≤i.2.1∧i.2.1≤2895)∧a.due < i.2.1+15 * i.1∧(∀ y ∈ i.2.2.1,Enc.ok i.2.2.2 y)∧Mines h i.2.2.2 i.2.2.1∧h2.le i.2.2.2) (fun i=>i.1) (200,a.ready,[],h2) ⟨hG,⟨hrd0,by simp only;omega⟩,by simp only;omega,fun y hy=>(by cases hy),Mines.nil,Hp.le_refl _⟩ [0,1,2,3] ?_ ?_
 ·refine Evs ?_
  exact Gk
 rintro ⟨f,s,acc,hk⟩ ⟨hgo,⟨hsl0,hsl1⟩,hfu,hacok,hacm,hle⟩
 simp only at hgo hsl0 hsl1 hfu hacok hacm hle
 have hxk:Enc.ok hk x:=Enc.mono hle hx2
 have hak:Enc.ok hk a:=Enc.mono hle ha2
 have hs64:I64 s:=by unfold I64;omega
 refine Wk ?_
 refine zc9 rfl (fun hd=>?_) (fun hd=>?_)
 ·have hd1:=Bool.and_eq_true_iff.1 hd
  have hc1:s≤a.due:=of_decide_eq_true hd1.1
  have hc2:acc.length < 8:=by have:=of_decide_eq_true hd1.2;omega
  obtain ⟨f,rfl⟩:∃ g,f=g+1:=⟨f - 1,by omega⟩
  have hw15:IntKind.i64.wrap (s+15)=s+15:=by rw [zjz (by omega)]
  refine Wk ?_
  refine zkj (zyQ x a w m u r s _ hxk hak (ow.mono hle) (om.mono hle) (ou.mono hle) (okr2.mono hle) hs64 hrz hok hv hl) rfl ?_
  rintro v h3 le3 ⟨z,rfl,ez,okz,mz⟩
  have hle3:=Hp.le_trans hle le3
  have hle03:=Hp.le_trans le12 hle3
  cases hbo:(zyJ (Con.con x) a r.l s).2 with
  | false =>
   refine Wk ?_
   refine zc9 rfl (fun hq=>?_) (fun hq=>?_)
   ·cases hq
   refine Wk ?_
   refine ⟨(f,IntKind.i64.wrap (s+15),acc,h3),[0,1,2,3],⟨?_,by simp only [hw15];omega,by simp only [hw15];omega,fun y hy=>Enc.mono le3 (hacok y hy),zyZ le3 hacok hacm,hle3⟩,by simp only;omega,?_⟩
   ·rw [← hgo,zy0,if_pos ⟨hc1,by rw [zy7];exact hc2⟩,hbo,if_neg Bool.false_ne_true]
   refine Evs ?_
   exact Gk
  | true =>
   refine Wk ?_
   refine zc9 rfl (fun hq=>?_) (fun hq=>?_)
   case refine_2=>cases hq
   refine zc4 rfl ?_
   refine Evs ?_
   refine ⟨by simp only [maxLen];omega,by omega,?_⟩
   refine Wk ?_
   refine ⟨(f,IntKind.i64.wrap (s+15),acc ++ [z],h3),[0,1,2,6],⟨?_,by simp only [hw15];omega,by simp only [hw15];omega,fun y hy=>?_,Mines.snoc hacm hacok le3 (Hp.le_trans le12 hle) mz,hle3⟩,by simp only;omega,?_⟩
   ·rw [← hgo,zy0,if_pos ⟨hc1,by rw [zy7];exact hc2⟩,hbo,if_pos rfl,List.map_append,← ez];rfl
   ·rcases List.mem_append.1 hy with hy|hy
    ·exact Enc.mono le3 (hacok y hy)
    ·rw [List.mem_singleton.1 hy];exact okz
   refine Evs ?_
   simp only [List.flatMap_append,List.length_append]
   exact Gk
 ·have hstop:¬ (s≤a.due∧(acc.map Con.con).length < 8):=fun H=>by
   rw [zy7] at H
   have h1:decide (s≤a.due)=true:=decide_eq_true H.1
   have h2:decide (((acc.length:Nat):Int) < 8)=true:=decide_eq_true (by omega)
   have:(decide (s≤a.due) && decide (((acc.length:Nat):Int) < 8))=false:=hd
   rw [h1,h2] at this;cases this
  rw [← hgo,zy6 hstop]
  refine zc6 ?_
  refine Evs ?_
  refine zlE 3 acc rfl rfl rfl rfl (by decide) hacok h (Hp.le_trans le12 hle) hacm fun q h' e2 e3 e4 e5=>?_
  refine Wk ?_
  exact ⟨q,rfl,by rw [e2],e3,e5⟩
set_option maxRecDepth 30000 in
theorem z0f (x:DHarbour) (a:DCall) (h:Hp) (hx:Enc.ok h x) (ha:Enc.ok h a):Ct jV 90 [x.v,a.v] h fun v h'=>∃ s:Sl DOption,v=s.val∧s.l.map Con.con=zy1 (Con.con x) a∧s.Ok h'∧Mine h h' s:=by
 refine zdn (fun A W=>by simp) Tryz.func90 rfl rfl (by simp) fun W0=>?_
 repeat' first|refine Wa ?_|refine zhF (fun _=>zZg x a _ hx ha) ?_|(simp only [go_sem,jq,jj,jy,jv,jk,jx];try rfl)|refine Wb ?_|fail
 refine zc9 rfl (fun hq=>?_) (fun hq=>?_)
 ·rw [Bool.not_eq_true'] at hq
  rw [zy5 (x:=Con.con x) (a:=a) hq]
  refine Wk ?_
  exact ⟨⟨none,0,[]⟩,rfl,rfl,zmo,Mine.nil⟩
 rw [Bool.not_eq_false'] at hq
 have hok:zvB (Con.con x) a=true:=hq
 obtain ⟨_,_,_,_,_,_,_,_,_,_,hrd0,hrd1,hrd2,hdue⟩:=zyE hok
 refine Wk ?_
 refine zkj (zZ4 x.chart a.src a.dst _ hx.2.1 ha.2.1) rfl ?_
 rintro v h1 le1 ⟨r,rfl,er,okr⟩
 have hx1:Enc.ok h1 x:=Enc.mono le1 hx
 have ha1:Enc.ok h1 a:=Enc.mono le1 ha
 have hrz:r.l.length≤1048576:=by
  rw [er]
  cases hb:zyd (Con.con x.chart) a.src a.dst with
  | none=>exact Nat.zero_le _
  | some y=>have:=zyf hb;show y.length≤_;omega
 cases hb:zyd (Con.con x.chart) a.src a.dst with
 | none =>
  have hF:zy1 (Con.con x) a=[]:=by rw [zy1,if_pos hok,show (Con.con x).chart=Con.con x.chart from rfl,hb]
  rw [hF]
  refine Wk ?_
  refine zc9 rfl (fun hq=>?_) (fun hq=>?_)
  case refine_2=>cases hq
  refine Wk ?_
  exact ⟨⟨none,0,[]⟩,rfl,rfl,zmo,Mine.nil⟩
 | some rl =>
 rw [hb] at er
 have er:r.l=rl:=er
 have hcv:cvOk (Con.con x) a r.l=true:=by rw [er];exact zy4 hok hb
 have hv:voOk (Con.con x.forecast) (Con.con x.chart) (zyD (Con.con x) a) a.src r.l=true:=by
  rw [cvOk,jJ] at hcv;exact hcv.2
 have hR:zxf (Con.con x.chart) a.src r.l=true:=by
  rw [zyF hok,jJ] at hv;exact hv.1
 obtain ⟨hC,hin,pl,hptl,hpk,hplen,hpx⟩:=zxi hR
 obtain ⟨hfo,hch,⟨hsi,hsh,hso⟩,hs0,hs1,_⟩:=zyE hok
 refine Wk ?_
 refine zc9 rfl (fun hq=>?_) (fun hq=>?_)
 ·cases hq
 repeat' first|refine Wa ?_|(simp only [go_sem,jq,jj,jy,jv,jk,jx,zlT hx1.2.2.1 hsi,zk0 hx1.2.2.1 hsi,hx1.2.2.1.some hsi,hsi,hs0,hs1,jW,implies_true,true_and,and_true,and_self];try rfl)|refine Wb ?_|fail
 refine zkj (zZ7 x.forecast x.chart x.fleet.l[a.ship.toNat] r _ hx1.1 hx1.2.1 (hx1.2.2.1.el hsi) okr hrz) rfl ?_
 rintro v h3 le3 ⟨u,rfl,eu,uok⟩
 have hx3:Enc.ok h3 x:=Enc.mono le3 hx1
 refine Wk ?_
 refine zkj (zZS x.chart a.src r _ hx3.2.1 ha1.2.1 (okr.mono le3) hrz) rfl ?_
 rintro v h2 le4 ⟨p,rfl,ep,pok⟩
 rw [hptl] at ep
 have ep:p.l=pl:=ep
 have le2:=Hp.le_trans le3 le4
 have le12:=Hp.le_trans le1 le2
 have hx2:Enc.ok h2 x:=Enc.mono le2 hx1
 have ha2:Enc.ok h2 a:=Enc.mono le2 ha1
 have okr2:=okr.mono le2
 have uok2:=uok.mono le4
 have hun:u.l.length=r.l.length:=by have:=congrArg List.length eu;rwa [List.length_map,zym,rmap_len] at this
 have hr0:0 < r.l.length:=by
  rw [zyF hok,jJ,decide_eq_true_eq] at hv;exact hv.2
 refine Wk ?_
 have hF:zy1 (Con.con x) a=zy0 (zyJ (Con.con x) a r.l) a.due 200 a.ready []:=by
  rw [zy1,if_pos hok,show (Con.con x).chart=Con.con x.chart from rfl,hb,er]
 obtain ⟨G,hG⟩:∃ G,zy0 (zyJ (Con.con x) a r.l) a.due 200 a.ready []=G:=⟨_,rfl⟩
 rw [hF,hG]
 refine zl0 (ι:=Nat × Int × List DOption × Hp) (fun i=>⟨[(2,true,.c (.p 0 0)),(3,true,.c (.p 1 0)),(4,true,.c (.v (.slice none 0 0))),(5,true,.c (.v r.val)),(7,true,.c (.p 2 0)),(8,true,.c (.v u.val)),(9,true,.c (.v p.val)),(10,true,.c (.s 3)),(11,true,.c (.v (.int .i64 i.2.1)))],[(0,.box 62 [.v (.int .i64 x.forecast.tide.mean),.v x.forecast.tide.parts.val,.v x.forecast.surges.val,.v x.chart.points.val,.v x.chart.segments.val,.v x.fleet.val,.v (.int .i64 x.regime.gap),.v (.bool x.regime.noMeet),.v (.int .i64 x.crew.tugs),.v (.int .i64 x.crew.pilots),.v (.int .i64 x.crew.rest),.v x.crew.moves.val]),(1,.box 79 [.v (.int .i64 a.ship),.v (.int .i64 a.src),.v (.int .i64 a.dst),.v (.int .i64 a.ready),.v (.int .i64 a.due)]),(2,.box 157 [.v (.string x.fleet.l[a.ship.toNat].name),.v (.int .i64 x.fleet.l[a.ship.toNat].length),.v (.int .i64 x.fleet.l[a.ship.toNat].draught),.v (.int .i64 x.fleet.l[a.ship.toNat].line),.v (.int .i64 x.fleet.l[a.ship.toNat].tugs),.v (.bool x.fleet.l[a.ship.toNat].slow)]),(3,.row 84 4 i.2.2.1.length (i.2.2.1.flatMap Enc.enc))],i.2.2.2,4⟩) (fun i=>zy0 (zyJ (Con.con x) a r.l) a.due i.1 i.2.1 (i.2.2.1.map Con.con)=G∧(0≤i.2.1∧i.2.1≤2895)∧a.due < i.2.1+15 * i.1∧(∀ y ∈ i.2.2.1,Enc.ok i.2.2.2 y)∧Mines h i.2.2.2 i.2.2.1∧h2.le i.2.2.2) (fun i=>i.1) (200,a.ready,[],h2) ⟨hG,⟨hrd0,by simp only;omega⟩,by simp only;omega,fun y hy=>(by cases hy),Mines.nil,Hp.le_refl _⟩ [0,1,2,3] ?_ ?_
 ·refine Evs ?_
  exact Gk
 rintro ⟨f,s,acc,hk⟩ ⟨hgo,⟨hsl0,hsl1⟩,hfu,hacok,hacm,hle⟩
 simp only at hgo hsl0 hsl1 hfu hacok hacm hle
 have hxk:Enc.ok hk x:=Enc.mono hle hx2
 have hak:Enc.ok hk a:=Enc.mono hle ha2
 have hs64:I64 s:=by unfold I64;omega
 refine Wk ?_
 refine zc9 rfl (fun hd=>?_) (fun hd=>?_)
 ·have hd1:=Bool.and_eq_true_iff.1 hd
  have hc1:s≤a.due:=of_decide_eq_true hd1.1
  have hc2:acc.length < 8:=by have:=of_decide_eq_true hd1.2;omega
  obtain ⟨f,rfl⟩:∃ g,f=g+1:=⟨f - 1,by omega⟩
  have hw15:IntKind.i64.wrap (s+15)=s+15:=by rw [zjz (by omega)]
  refine Wk ?_
  refine zkj (zZ5 x.chart x.fleet.l[a.ship.toNat] p r u s _ hxk.2.1 (hxk.2.2.1.el hsi) (pok.mono hle) (okr2.mono hle) (uok2.mono hle) hs64 hun.symm (by rw [ep,hun];exact hplen) (by omega) (by omega) (fun i hi=>by rw [← zvJ];exact zxj hpk (Nat.le_refl _) i hi hi) (fun i hi=>by rw [← zwZ];exact hpx _ (by rw [← ep];exact List.getElem_mem hi))) rfl ?_
  rintro v h5 le5 ⟨q,rfl,eq,okq⟩
  have hSR:zys (zyl (Con.con x.chart) p.l r.l.length) (minL (Con.con x.chart) x.fleet.l[a.ship.toNat] r.l r.l.length) (u.l.map (·.l)) s=zyB (Con.con x.forecast) (Con.con x.chart) (zyD (Con.con x) a) a.src r.l s:=by
   rw [zyB,if_pos hv,hptl,eu,ep,hsh];rfl
  rw [hSR] at eq ⊢
  have hOpt:zyJ (Con.con x) a r.l s=match zyB (Con.con x.forecast) (Con.con x.chart) (zyD (Con.con x) a) a.src r.l s with|none=>(zJX,false)|some q=>zyI (Con.con x) a r.l q s:=rfl
  cases hsl:zyB (Con.con x.forecast) (Con.con x.chart) (zyD (Con.con x) a) a.src r.l s with
  | none =>
   rw [hsl] at hOpt
   refine Wk ?_
   refine zc9 rfl (fun hq=>?_) (fun hq=>?_)
   case refine_2=>cases hq
   refine Wk ?_
   refine ⟨(f,IntKind.i64.wrap (s+15),acc,h5),[0,1,2,3],⟨?_,by simp only [hw15];omega,by simp only [hw15];omega,fun y hy=>Enc.mono le5 (hacok y hy),zyZ le5 hacok hacm,Hp.le_trans hle le5⟩,by simp only;omega,?_⟩
   ·rw [← hgo,zy0,if_pos ⟨hc1,by rw [zy7];exact hc2⟩,hOpt,if_neg Bool.false_ne_true]
   have hle05:=Hp.le_trans le12 (Hp.le_trans hle le5)
   refine Evs ?_
   exact Gk
  | some sl =>
  obtain ⟨hl1,hl2,hl3⟩:=z0b hsl
  rw [hsl] at hOpt eq
  have eq:q.l=sl:=eq
  have hOpt:zyJ (Con.con x) a r.l s=zyI (Con.con x) a r.l sl s:=hOpt
  have hq0:0 < q.l.length:=by rw [eq];exact hl2
  have hqst:q.l[0]=s:=by rw [← iget hq0,eq];exact hl3
  refine Wk ?_
  refine zc9 rfl (fun hq=>?_) (fun hq=>?_)
  ·cases hq
  refine Wk ?_
  refine zkj (z0a x a r q _ (Enc.mono le5 hxk) (Enc.mono le5 hak) ((okr2.mono hle).mono le5) okq hrz hok hR hq0) rfl ?_
  rintro v h3 le6 ⟨z,rfl,ez,okz,mz⟩
  have le3:=Hp.le_trans le5 le6
  have mz:=mz.back le5
  rw [hqst,eq,← hOpt] at ez ⊢
  have hle3:=Hp.le_trans hle le3
  have hle03:=Hp.le_trans le12 hle3
  cases hbo:(zyJ (Con.con x) a r.l s).2 with
  | false =>
   refine Wk ?_
   refine zc9 rfl (fun hq=>?_) (fun hq=>?_)
   ·cases hq
   refine Wk ?_
   refine ⟨(f,IntKind.i64.wrap (s+15),acc,h3),[0,1,2,3],⟨?_,by simp only [hw15];omega,by simp only [hw15];omega,fun y hy=>Enc.mono le3 (hacok y hy),zyZ le3 hacok hacm,hle3⟩,by simp only;omega,?_⟩
   ·rw [← hgo,zy0,if_pos ⟨hc1,by rw [zy7];exact hc2⟩,hbo,if_neg Bool.false_ne_true]
   refine Evs ?_
   exact Gk
  | true =>
   refine Wk ?_
   refine zc9 rfl (fun hq=>?_) (fun hq=>?_)
   case refine_2=>cases hq
   refine zc4 rfl ?_
   refine Evs ?_
   refine ⟨by simp only [maxLen];omega,by omega,?_⟩
   refine Wk ?_
   refine ⟨(f,IntKind.i64.wrap (s+15),acc ++ [z],h3),[0,1,2,6],⟨?_,by simp only [hw15];omega,by simp only [hw15];omega,fun y hy=>?_,Mines.snoc hacm hacok le3 (Hp.le_trans le12 hle) mz,hle3⟩,by simp only;omega,?_⟩
   ·rw [← hgo,zy0,if_pos ⟨hc1,by rw [zy7];exact hc2⟩,hbo,if_pos rfl,List.map_append,← ez];rfl
   ·rcases List.mem_append.1 hy with hy|hy
    ·exact Enc.mono le3 (hacok y hy)
    ·rw [List.mem_singleton.1 hy];exact okz
   refine Evs ?_
   simp only [List.flatMap_append,List.length_append]
   exact Gk
 ·have hstop:¬ (s≤a.due∧(acc.map Con.con).length < 8):=fun H=>by
   rw [zy7] at H
   have h1:decide (s≤a.due)=true:=decide_eq_true H.1
   have h2:decide (((acc.length:Nat):Int) < 8)=true:=decide_eq_true (by omega)
   have:(decide (s≤a.due) && decide (((acc.length:Nat):Int) < 8))=false:=hd
   rw [h1,h2] at this;cases this
  rw [← hgo,zy6 hstop]
  refine zc6 ?_
  refine Evs ?_
  refine zlE 3 acc rfl rfl rfl rfl (by decide) hacok h (Hp.le_trans le12 hle) hacm fun q h' e2 e3 e4 e5=>?_
  refine Wk ?_
  exact ⟨q,rfl,by rw [e2],e3,e5⟩
theorem zza (l:List POption):(l=[]∧zuC l=-1)∨(0≤zuC l∧zuC l < l.length):=by
 unfold zuC
 rcases zuB (l.map (·.cost)) l.length with ⟨h,e⟩|h
 ·exact .inl ⟨List.length_eq_zero_iff.1 h,e⟩
 ·exact .inr h
theorem zzc (x:DHarbour) (a:DCall) (h:Hp) (hx:Enc.ok h x) (ha:Enc.ok h a):Ct jV 91 [x.v,a.v] h fun v h'=>∃ s:Sl DOption,v=s.val∧Con.con s=zy1 (Con.con x) (Con.con a)∧s.Ok h'∧Mine h h' s:=zy8 x a h hx ha
theorem z0g (x:DHarbour) (a:DCall) (h:Hp) (hx:Enc.ok h x) (ha:Enc.ok h a):Ct jV 90 [x.v,a.v] h fun v h'=>∃ s:Sl DOption,v=s.val∧Con.con s=zy1 (Con.con x) (Con.con a)∧s.Ok h'∧Mine h h' s:=z0f x a h hx ha
theorem zze {c:PChart} {ship:Int} {s:DShip} {a:Int} {r st:List Int}:(zxN c ship s a r st).length≤8:=by
 rw [zxN]
 split
 ·rename_i h
  have h1:=h.1
  rw [zxM,jJ,jJ] at h1
  obtain ⟨hC,hin,l,hl,hk,hlen,hx⟩:=zxi h1.1.1
  have:=zxZ hC (zw5 hk) hx
  rw [zxQ];omega
 ·exact Nat.zero_le _
theorem zzf (l:List DPassage):Sz.sz l=l.length:=by
 rw [zmu]
 have:(l.map Sz.sz).sum=0:=by induction l with|nil=>rfl|cons x l ih=>rw [List.map_cons,List.sum_cons,ih];rfl
 omega
theorem zzg {x:PHarbour} {a:DCall} {r:List Int} {st:Int}:Sz.sz (zyJ x a r st).1≤8:=by
 show Sz.sz (zyJ x a r st).1.pas≤8
 rw [zzf,zyJ]
 split
 ·exact Nat.zero_le _
 ·exact zze
theorem z0h (x:PHarbour) (a:DCall) (r:List Int) (st:Int):Sz.sz (zyR x a r st).1≤1048576:=by
 rw [zyR]
 split
 ·exact Nat.le_trans zzg (by decide)
 ·exact Nat.zero_le _
theorem zzh {opt:Int→POption × Bool} {due:Int} (ho:∀ s,Sz.sz (opt s).1≤8):∀ {f:Nat} {s:Int} {acc:List POption},(acc.length≤8∧∀ y ∈ acc,Sz.sz y≤8)→(zy0 opt due f s acc).length≤8∧∀ y ∈ zy0 opt due f s acc,Sz.sz y≤8
 | 0,_,_,h=>h
 | f+1,s,acc,h=>by
  unfold zy0
  split
  ·rename_i hc
   refine zzh ho ?_
   split
   ·refine ⟨by rw [List.length_append,List.length_singleton];omega,fun y hy=>?_⟩
    rcases List.mem_append.1 hy with hy|hy
    ·exact h.2 y hy
    ·rw [List.mem_singleton.1 hy];exact ho s
   ·exact h
  ·exact h
theorem zzi {x:PHarbour} {a:DCall}:(zy1 x a).length≤8∧∀ y ∈ zy1 x a,Sz.sz y≤8:=by
 rw [zy1]
 split
 ·split
  ·exact ⟨Nat.zero_le _,fun y hy=>by cases hy⟩
  ·exact zzh (fun s=>zzg) ⟨Nat.zero_le _,fun y hy=>by cases hy⟩
 ·exact ⟨Nat.zero_le _,fun y hy=>by cases hy⟩
theorem zJY {β:Type} [Sz β] {l:List β} {k:Nat} (h:∀ y ∈ l,Sz.sz y≤k):Sz.sz l≤l.length+l.length * k:=by
 rw [zmu]
 have:(l.map Sz.sz).sum≤l.length * k:=by
  induction l with
  | nil=>simp
  | cons x l ih =>
   rw [List.map_cons,List.sum_cons,List.length_cons,Nat.add_mul,Nat.one_mul]
   have h1:=h x (List.mem_cons_self ..)
   have h2:=ih fun y hy=>h y (List.mem_cons_of_mem _ hy)
   omega
 omega
def clB (c:PChart) (r:DRegime) (p:DPassage) (b:List DPassage):Bool:=b.any fun q=>decide (zJN c r p q ≠ 0)
theorem zJZ (c:PChart) (r:DRegime) (a b:List DPassage):zJO c r a b=a.any fun p=>clB c r p b:=rfl
theorem zJ0 {α:Type} {f:α→Bool} {l:List α} {k:Nat} (hk:l.length≤k) (h:(l.take k).any f=false):l.any f=false:=by rwa [List.take_of_length_le hk] at h
theorem zJ1 (x:DChart) (r:DRegime) (a b:Sl DPassage) (h:Hp) (hx:Enc.ok h x) (hr:zvl r=true) (ha:Enc.ok h a) (hb:Enc.ok h b):Ct jV 92 [x.v,r.v,a.val,b.val] h fun v h'=>v=.bool (zJO (Con.con x) r a.l b.l)∧h'=h:=by
 have ha:a.Ok h:=ha
 have hb:b.Ok h:=hb
 have hla:=ha.max
 have hlb:=hb.max
 rw [zJZ]
 refine zdn (fun A W=>by simp) Tryz.func92 rfl rfl (by simp) fun W0=>?_
 refine Wk ?_
 refine zde (ι:=Nat) (fun k=>⟨[(3,true,.c (.v b.val)),(4,true,.c (.p 0 0)),(5,true,.c (.p 1 0)),(8,true,.c (.v (.bool false))),(13,true,.c (.v a.val)),(14,true,.c (.v (.int .i64 a.l.length))),(15,true,.c (.v (.int .i64 k)))],[(0,.box 57 [.v x.points.val,.v x.segments.val]),(1,.box 59 [.v (.int .i64 r.gap),.v (.bool r.noMeet)])],h,2⟩) (fun k=>k≤a.l.length∧(a.l.take k).any (fun p=>clB (Con.con x) r p b.l)=false) (fun k=>a.l.length - k) 0 ⟨Nat.zero_le _,by simp⟩ ?_ ?_
 ·refine Evs ?_
  exact Gk
 intro k hk
 refine Wk ?_
 refine zc9 rfl (fun hd=>?_) (fun hd=>?_)
 ·have hlt:=zjH hd
  repeat' first|refine Wa ?_|(simp only [go_sem,jq,jj,jy,jv,jk,jx,zky ha hlt,ha.some hlt,hlt,jW];try rfl)|refine Wb ?_|fail
  refine zde (ι:=Nat) (fun j=>⟨[(3,true,.c (.v b.val)),(4,true,.c (.p 0 0)),(5,true,.c (.p 1 0)),(8,true,.c (.v (.bool false))),(10,true,.c (.p 2 0)),(13,true,.c (.v a.val)),(14,true,.c (.v (.int .i64 a.l.length))),(15,true,.c (.v (.int .i64 k))),(19,true,.c (.v b.val)),(20,true,.c (.v (.int .i64 b.l.length))),(21,true,.c (.v (.int .i64 j)))],[(0,.box 57 [.v x.points.val,.v x.segments.val]),(1,.box 59 [.v (.int .i64 r.gap),.v (.bool r.noMeet)]),(2,.box 222 [.v (.int .i64 a.l[k].ship),.v (.int .i64 a.l[k].seg),.v (.bool a.l[k].toward),.v (.int .i64 a.l[k].start),.v (.int .i64 a.l[k].fin)])],h,3⟩) (fun j=>j≤b.l.length∧(b.l.take j).any (fun q=>decide (zJN (Con.con x) r a.l[k] q ≠ 0))=false) (fun j=>b.l.length - j) 0 ⟨Nat.zero_le _,by simp⟩ ?_ ?_
  ·refine Evs ?_
   exact Gk
  intro j hj
  refine Wk ?_
  refine zc9 rfl (fun hd2=>?_) (fun hd2=>?_)
  ·have hltj:=zjH hd2
   repeat' first|refine Wa ?_|refine zhF (fun _=>zJW x r a.l[k] b.l[j] _ hx hr (ha.el hlt) (hb.el hltj)) ?_|(simp only [go_sem,jq,jj,jy,jv,jk,jx,zky hb hltj,hb.some hltj,hltj,jW];try rfl)|refine Wb ?_|fail
   refine zc9 rfl (fun hq=>?_) (fun hq=>?_)
   ·refine Wk ?_
    rw [zJQ hlt]
    rw [clB]
    exact zJQ hltj (decide_eq_true (zjD hq))
   ·have hq0:zJN (Con.con x) r a.l[k] b.l[j]=0:=by simpa using hq
    refine Wk ?_
    refine ⟨j+1,⟨hltj,?_⟩,by omega,zjB (zjA hltj (by omega))⟩
    rw [zJP hltj,hj.2,Bool.false_or,decide_eq_false (fun H=>H hq0)]
  ·have hge:=zjI hd2
   refine Wk ?_
   refine ⟨k+1,⟨hlt,?_⟩,by omega,zjB (zjA hlt (by omega))⟩
   rw [zJP hlt,hk.2,Bool.false_or,clB]
   exact zJ0 hge hj.2
 ·have hge:=zjI hd
  refine Wk ?_
  rw [zJ0 hge hk.2]
theorem z0i (x:DChart) (r:DRegime) (a b:Sl DPassage) (h:Hp) (hx:Enc.ok h x) (hr:zvl r=true) (hC:zva (Con.con x)=true) (ha:Enc.ok h a) (hb:Enc.ok h b):Ct jV 163 [x.v,r.v,a.val,b.val] h fun v h'=>v=.bool (zJO (Con.con x) r a.l b.l)∧h'=h:=by
 have ha:a.Ok h:=ha
 have hb:b.Ok h:=hb
 have hla:=ha.max
 have hlb:=hb.max
 rw [zJZ]
 refine zdn (fun A W=>by simp) Tryz.func163 rfl rfl (by simp) fun W0=>?_
 refine Wk ?_
 refine zde (ι:=Nat) (fun k=>⟨[(3,true,.c (.v b.val)),(4,true,.c (.p 0 0)),(5,true,.c (.p 1 0)),(8,true,.c (.v (.bool false))),(13,true,.c (.v a.val)),(14,true,.c (.v (.int .i64 a.l.length))),(15,true,.c (.v (.int .i64 k)))],[(0,.box 57 [.v x.points.val,.v x.segments.val]),(1,.box 59 [.v (.int .i64 r.gap),.v (.bool r.noMeet)])],h,2⟩) (fun k=>k≤a.l.length∧(a.l.take k).any (fun p=>clB (Con.con x) r p b.l)=false) (fun k=>a.l.length - k) 0 ⟨Nat.zero_le _,by simp⟩ ?_ ?_
 ·refine Evs ?_
  exact Gk
 intro k hk
 refine Wk ?_
 refine zc9 rfl (fun hd=>?_) (fun hd=>?_)
 ·have hlt:=zjH hd
  repeat' first|refine Wa ?_|(simp only [go_sem,jq,jj,jy,jv,jk,jx,zky ha hlt,ha.some hlt,hlt,jW];try rfl)|refine Wb ?_|fail
  refine zde (ι:=Nat) (fun j=>⟨[(3,true,.c (.v b.val)),(4,true,.c (.p 0 0)),(5,true,.c (.p 1 0)),(8,true,.c (.v (.bool false))),(10,true,.c (.p 2 0)),(13,true,.c (.v a.val)),(14,true,.c (.v (.int .i64 a.l.length))),(15,true,.c (.v (.int .i64 k))),(19,true,.c (.v b.val)),(20,true,.c (.v (.int .i64 b.l.length))),(21,true,.c (.v (.int .i64 j)))],[(0,.box 57 [.v x.points.val,.v x.segments.val]),(1,.box 59 [.v (.int .i64 r.gap),.v (.bool r.noMeet)]),(2,.box 222 [.v (.int .i64 a.l[k].ship),.v (.int .i64 a.l[k].seg),.v (.bool a.l[k].toward),.v (.int .i64 a.l[k].start),.v (.int .i64 a.l[k].fin)])],h,3⟩) (fun j=>j≤b.l.length∧(b.l.take j).any (fun q=>decide (zJN (Con.con x) r a.l[k] q ≠ 0))=false) (fun j=>b.l.length - j) 0 ⟨Nat.zero_le _,by simp⟩ ?_ ?_
  ·refine Evs ?_
   exact Gk
  intro j hj
  refine Wk ?_
  refine zc9 rfl (fun hd2=>?_) (fun hd2=>?_)
  ·have hltj:=zjH hd2
   repeat' first|refine Wa ?_|refine zhF (fun _=>zZq x r a.l[k] b.l[j] _ hx hr hC (ha.el hlt) (hb.el hltj)) ?_|(simp only [go_sem,jq,jj,jy,jv,jk,jx,zky hb hltj,hb.some hltj,hltj,jW];try rfl)|refine Wb ?_|fail
   refine zc9 rfl (fun hq=>?_) (fun hq=>?_)
   ·refine Wk ?_
    rw [zJQ hlt]
    rw [clB]
    exact zJQ hltj (decide_eq_true (zjD hq))
   ·have hq0:zJN (Con.con x) r a.l[k] b.l[j]=0:=by simpa using hq
    refine Wk ?_
    refine ⟨j+1,⟨hltj,?_⟩,by omega,zjB (zjA hltj (by omega))⟩
    rw [zJP hltj,hj.2,Bool.false_or,decide_eq_false (fun H=>H hq0)]
  ·have hge:=zjI hd2
   refine Wk ?_
   refine ⟨k+1,⟨hlt,?_⟩,by omega,zjB (zjA hlt (by omega))⟩
   rw [zJP hlt,hk.2,Bool.false_or,clB]
   exact zJ0 hge hj.2
 ·have hge:=zjI hd
  refine Wk ?_
  rw [zJ0 hge hk.2]
theorem zzj {s:DShip} {g:DSegment} (h:1≤g.minutes∧g.minutes≤240):1≤zvG s g∧zvG s g≤480:=by
 unfold zvG
 split
 ·rw [zjz (by omega)];omega
 ·omega
theorem zzk {c:PChart} (h:zva c=true) {i:Nat} (hi:i < c.segments.length):1≤(c.segments.getD i dG).minutes∧(c.segments.getD i dG).minutes≤240:=by
 simp only [zva,jJ,decide_eq_true_eq] at h
 have:=h.2 i hi
 simp only [zu9,zu7,jJ,decide_eq_true_eq] at this
 exact ⟨this.1.2.2.2.2.2.2.2.1,this.1.2.2.2.2.2.2.2.2⟩
theorem zzl {l:List DWindow} {m:Int} (hn:¬ zwc l m < 0):m≤zwc l m∧zwc l m≤2880:=by
 unfold zwc at hn ⊢
 split at hn
 ·rename_i hw
  rw [if_pos hw]
  split at hn
  ·rename_i w hf
   have h1:=List.find?_some hf
   have h1:m≤w.dst:=of_decide_eq_true h1
   obtain ⟨i,hi,e⟩:=List.getElem_of_mem (List.mem_of_find?_eq_some hf)
   have h2:=of_decide_eq_true hw i hi
   rw [zv9,decide_eq_true_eq,List.getD_eq_getElem?_getD,List.getElem?_eq_getElem hi,Option.getD_some,e] at h2
   omega
  ·exact absurd (show (-1:Int) < 0 by decide) hn
 ·exact absurd (show (-1:Int) < 0 by decide) hn
def zzm (m:List Int):Nat→Int
 | 0=>0
 | k+1=>zzm m k+m.getD k 0
theorem zzn {m:List Int} (hm:∀ i,i < m.length→1≤m.getD i 0∧m.getD i 0≤480):∀ {k:Nat},k≤m.length→0≤zzm m k∧zzm m k≤480 * k
 | 0,_=>⟨Int.le_refl _,by simp [zzm]⟩
 | k+1,hk=>by
  have h1:=zzn hm (k:=k) (by omega)
  have h2:=hm k (by omega)
  rw [zzm];omega
theorem zzo {w:List Bool} {m:List Int} {u:List (List DWindow)} {st:Int} (hst:0≤st∧st≤2880) (hm:∀ i,i < m.length→1≤m.getD i 0∧m.getD i 0≤480):∀ {k:Nat} {l:List Int},k≤m.length→slK w m u st k=some l→l.length=k+1∧(∀ i,i≤k→0≤l.getD i 0∧l.getD i 0≤2880)∧st+zzm m k≤l.getD k 0
 | 0,l,_,h=>by
  rw [slK] at h
  rw [← Option.some.inj h]
  refine ⟨rfl,fun i hi=>?_,?_⟩
  ·rw [Nat.le_zero.1 hi];exact hst
  ·rw [zzm,Int.add_zero];exact Int.le_refl _
 | k+1,l,hk,h=>by
  rw [slK] at h
  cases hp:slK w m u st k with
  | none=>rw [hp] at h;cases h
  | some p =>
   rw [hp,Option.bind_some] at h
   obtain ⟨h1,h2,h3⟩:=zzo hst hm (k:=k) (by omega) hp
   have h4:=hm k (by omega)
   have h5:=h2 k (Nat.le_refl _)
   unfold zyr at h
   dsimp only at h
   split at h
   ·cases h
   ·rename_i hc
    rw [not_or] at hc
    have h6:=zzl hc.1
    have hw:IntKind.i64.wrap (p.getD k 0+m.getD k 0)=p.getD k 0+m.getD k 0:=zjz (by omega)
    rw [hw] at h6 h
    have e:=Option.some.inj h
    generalize zwc (u.getD (k+1) []) (p.getD k 0+m.getD k 0)=nx at h6 e
    rw [← e]
    refine ⟨by rw [List.length_append,h1];rfl,fun i hi=>?_,?_⟩
    ·rcases Nat.lt_or_ge i (k+1) with hi2|hi2
     ·rw [List.getD_eq_getElem?_getD,List.getElem?_append_left (by omega),← List.getD_eq_getElem?_getD]
      exact h2 i (by omega)
     ·rw [show i=p.length by omega]
      have e2:(p ++ [nx]).getD p.length 0=nx:=by simp only [List.getD_eq_getElem?_getD,List.getElem?_concat_length,Option.getD_some]
      rw [e2]
      omega
    ·rw [show k+1=p.length by omega]
     have e2:(p ++ [nx]).getD p.length 0=nx:=by simp only [List.getD_eq_getElem?_getD,List.getElem?_concat_length,Option.getD_some]
     rw [e2,show p.length=k+1 by omega,zzm]
     omega
theorem zzp {m:List Int} (hm:∀ i,i < m.length→1≤m.getD i 0∧m.getD i 0≤480) (hl:m.length≤100) {z:Int} (hz:-1000000≤z∧z≤1000000):∀ {k:Nat},k≤m.length→(m.take k).foldl (fun acc y=>IntKind.i64.wrap (acc - y)) z=z - zzm m k
 | 0,_=>by simp [zzm]
 | k+1,hk=>by
  rw [List.take_succ_eq_append_getElem (by omega),List.foldl_append,List.foldl_cons,List.foldl_nil,zzp hm hl hz (k:=k) (by omega),zzm]
  have h1:=zzn hm (k:=k) (by omega)
  have h2:=hm k (by omega)
  have h3:m.getD k 0=m[k]'(by omega):=by rw [List.getD_eq_getElem?_getD,List.getElem?_eq_getElem (by omega)];rfl
  rw [← h3,zjz (by omega)]
  omega
theorem zzq {P:POption→Prop} {opt:Int→POption × Bool} {lo due:Int} (hlo:0≤lo) (hdue:due≤2880) (h:∀ s,lo≤s→s≤due→(opt s).2=true→P (opt s).1):∀ {f:Nat} {s:Int} {acc:List POption},lo≤s→(∀ y ∈ acc,P y)→∀ y ∈ zy0 opt due f s acc,P y
 | 0,s,acc,_,ha=>ha
 | f+1,s,acc,hs,ha=>by
  unfold zy0
  split
  ·rename_i hc
   refine zzq hlo hdue h (by rw [zjz (by omega)];omega) ?_
   split
   ·rename_i h2
    intro y hy
    rcases List.mem_append.1 hy with hy|hy
    ·exact ha y hy
    ·rw [List.mem_singleton.1 hy];exact h s hs hc.1 h2
   ·exact ha
  ·exact ha
theorem zzr {c:PChart} {s:DShip} {r:List Int} {n i:Nat} (hi:i < n):(minL c s r n).getD i 0=zvG s (c.segments.getD (r.getD i 0).toNat dG):=by
 rw [minL,List.getD_eq_getElem?_getD,List.getElem?_map,List.getElem?_range hi];rfl
theorem zzs {c:PChart} {r:List Int} (hC:zva c=true) (hr:∀ i (hi:i < r.length),0≤r[i]∧r[i] < c.segments.length) (hl:r.length≤8):∀ {k:Nat},k≤r.length→0≤(r.take k).foldl (zxm c.segments) 0∧(r.take k).foldl (zxm c.segments) 0≤240 * k
 | 0,_=>by simp
 | k+1,hk=>by
  have h1:=zzs hC hr hl (k:=k) (by omega)
  have h2:=hr k (by omega)
  have h3:=zzk hC (i:=(r[k]'(by omega)).toNat) (by omega)
  rw [List.take_succ_eq_append_getElem (by omega),List.foldl_append,List.foldl_cons,List.foldl_nil,zxm,zjz (by omega)]
  omega
theorem zzt {x:DHarbour} {a:DCall} {r:List Int} (hok:zvB (Con.con x) a=true) (hcv:cvOk (Con.con x) a r=true) {st:Int} (hst:a.ready≤st∧st≤a.due) (h2:(zyJ (Con.con x) a r st).2=true):0≤(zyJ (Con.con x) a r st).1.cost∧(zyJ (Con.con x) a r st).1.cost≤2880:=by
 obtain ⟨_,hC,⟨hsi,hsh,hso⟩,_,_,_,_,_,_,_,hr0,hr1,hr2,hr3⟩:=zyE hok
 have hv:voOk (Con.con x.forecast) (Con.con x.chart) (zyD (Con.con x) a) a.src r=true:=by
  rw [cvOk,jJ] at hcv;exact hcv.2
 have hR:zxf (Con.con x.chart) a.src r=true:=by
  rw [zyF hok,jJ] at hv;exact hv.1
 have hlen0:0 < r.length:=by
  rw [zyF hok,jJ,decide_eq_true_eq] at hv;exact hv.2
 obtain ⟨_,hin,pl,hptl,hpk,hplen,hpx⟩:=zxi hR
 have hrl:r.length≤8:=by have:=zxZ hC (zw5 hpk) hpx;omega
 have hmi:∀ i,i < (minL (Con.con x.chart) (zyD (Con.con x) a) r r.length).length→1≤(minL (Con.con x.chart) (zyD (Con.con x) a) r r.length).getD i 0∧(minL (Con.con x.chart) (zyD (Con.con x) a) r r.length).getD i 0≤480:=fun i hi=>by
  rw [minL,rmap_len] at hi
  rw [zzr hi]
  have h1:=zxj hpk (Nat.le_refl _) i hi hi
  have h3:r.getD i 0=r[i]:=by rw [List.getD_eq_getElem?_getD,List.getElem?_eq_getElem hi];rfl
  rw [h3]
  exact zzj (zzk hC (by omega))
 have hml:(minL (Con.con x.chart) (zyD (Con.con x) a) r r.length).length=r.length:=by rw [minL,rmap_len]
 unfold zyJ at h2 ⊢
 rw [show (Con.con x).forecast=Con.con x.forecast from rfl,show (Con.con x).chart=Con.con x.chart from rfl] at h2 ⊢
 cases hs:zyB (Con.con x.forecast) (Con.con x.chart) (zyD (Con.con x) a) a.src r st with
 | none=>rw [hs] at h2;cases h2
 | some l =>
  rw [hs] at h2
  dsimp only at h2 ⊢
  have h3:=hs
  rw [zyB,if_pos hv,zys] at h3
  split at h3
  ·rw [show (zym (Con.con x.forecast) (Con.con x.chart) (zyD (Con.con x) a) r r.length).length=r.length by rw [zym,rmap_len]] at h3
   obtain ⟨h4,h5,h6⟩:=zzo (by omega) hmi (by omega) h3
   have hpo:arOk (Con.con x.chart) (zyD (Con.con x) a) r l=true:=by
    rw [arOk,jJ,jJ,jJ,Bool.not_eq_true',decide_eq_false_iff_not,decide_eq_true_eq,decide_eq_true_eq,hsh]
    refine ⟨⟨⟨?_,hso⟩,hlen0⟩,by omega⟩
    rw [zxn,if_pos ⟨hC,fun i hi=>by
     have h1:=zxj hpk (Nat.le_refl _) i hi hi
     rw [rmOk,iget hi,decide_eq_true_eq];exact h1⟩]
    have:=zzs hC (fun i hi=>zxj hpk (Nat.le_refl _) i hi hi) hrl (k:=r.length) (Nat.le_refl _)
    rw [List.take_length] at this
    omega
   have hA:zxJ (Con.con x.chart) (zyD (Con.con x) a) r l=l.getD (r.length - 1) 0+(minL (Con.con x.chart) (zyD (Con.con x) a) r r.length).getD (r.length - 1) 0:=by
    have h7:=h5 (r.length - 1) (Nat.le_refl _)
    have h8:=hmi (r.length - 1) (by omega)
    rw [zzr (by omega)] at h8 ⊢
    rw [zxJ,if_pos hpo,if_pos (by rw [In,jJ,decide_eq_true_eq,decide_eq_true_eq];exact h7),zjz (by omega)]
   have hle:zxJ (Con.con x.chart) (zyD (Con.con x) a) r l≤2880:=of_decide_eq_true h2
   have h7:=h5 (r.length - 1) (Nat.le_refl _)
   have h8:=hmi (r.length - 1) (by omega)
   have h9:=zzn hmi (k:=r.length) (by omega)
   have h10:zzm (minL (Con.con x.chart) (zyD (Con.con x) a) r r.length) r.length=zzm (minL (Con.con x.chart) (zyD (Con.con x) a) r r.length) (r.length - 1)+(minL (Con.con x.chart) (zyD (Con.con x) a) r r.length).getD (r.length - 1) 0:=by
    obtain ⟨k,hk⟩:∃ k,r.length=k+1:=⟨r.length - 1,by omega⟩
    rw [show zzm (minL (Con.con x.chart) (zyD (Con.con x) a) r r.length) r.length=zzm (minL (Con.con x.chart) (zyD (Con.con x) a) r r.length) (r.length - 1+1) by rw [show r.length - 1+1=r.length by omega]]
    rfl
   have h11:=zzp hmi (by omega) (z:=zxJ (Con.con x.chart) (zyD (Con.con x) a) r l - a.ready) (by omega) (k:=r.length) (by omega)
   rw [List.take_of_length_le (by omega)] at h11
   show 0≤zyH a.ready (zxJ (Con.con x.chart) (zyD (Con.con x) a) r l) (minL (Con.con x.chart) (zyD (Con.con x) a) r r.length)∧zyH a.ready (zxJ (Con.con x.chart) (zyD (Con.con x) a) r l) (minL (Con.con x.chart) (zyD (Con.con x) a) r r.length)≤2880
   rw [zyH,zjz (by omega),h11]
   omega
  ·cases h3
theorem zzu {x:DHarbour} {a:DCall}:∀ y ∈ zy1 (Con.con x) a,0≤y.cost∧y.cost≤2880:=by
 cases hok:zvB (Con.con x) a with
 | false=>rw [zy5 hok];intro y hy;cases hy
 | true =>
  rw [zy1,if_pos hok]
  obtain ⟨_,_,_,_,_,_,_,_,_,_,hr0,hr1,hr2,hr3⟩:=zyE hok
  cases hb:zyd (Con.con x).chart a.src a.dst with
  | none=>intro y hy;cases hy
  | some r =>
   dsimp only
   exact zzq hr0 hr3 (fun s h1 h2 h3=>zzt hok (zy4 hok hb) ⟨h1,h2⟩ h3) (Int.le_refl _) (fun y hy=>by cases hy)
def zJ3 (c:PChart) (f:List DShip) (p:DPassage):List DDuty:=List.replicate (f.getD p.ship.toNat dH).tugs.toNat (zxA c p p)
def tugL (c:PChart) (f:List DShip) (l:List DPassage):List DDuty:=l.flatMap (zJ3 c f)
def zJ4 (c:PChart) (f:List DShip) (l:List DPassage):Option (List DDuty):=if (∀ i,i < l.length→pOk c f l i=true)∧(tugL c f l).length≤12 then some (tugL c f l) else none
theorem zJ6 {c:PChart} {f:List DShip} {l:List DPassage} {k:Nat} (hk:k < l.length):tugL c f (l.take (k+1))=tugL c f (l.take k) ++ zJ3 c f l[k]:=by
 rw [tugL,List.take_succ_eq_append_getElem hk,List.flatMap_append,List.flatMap_cons,List.flatMap_nil,List.append_nil];rfl
theorem zJ7 {c:PChart} {f:List DShip} {l:List DPassage} {k:Nat}:(tugL c f (l.take k)).length≤(tugL c f l).length:=by
 conv=>rhs;rw [← List.take_append_drop k l]
 rw [tugL,tugL,List.flatMap_append,List.length_append];omega
theorem zJ8 {c:PChart} {f:List DShip} {l:List DPassage} {k:Nat} (hk:k < l.length) (h:pOk c f l k=false):zJ4 c f l=none:=by
 rw [zJ4,if_neg];intro e;rw [e.1 k hk] at h;cases h
theorem zJ9 {c:PChart} {f:List DShip} {l:List DPassage} {k:Nat} (h:12 < (tugL c f (l.take k)).length):zJ4 c f l=none:=by
 rw [zJ4,if_neg];intro e;have:=zJ7 (c:=c) (f:=f) (l:=l) (k:=k);omega
theorem zKa {c:DChart} {f:List DShip} {l:List DPassage} {k:Nat} (hk:k < l.length) (h:pOk (Con.con c) f l k=true):(0≤l[k].ship∧l[k].ship < f.length)∧(0≤l[k].seg∧l[k].seg < c.segments.l.length)∧0≤(f.getD l[k].ship.toNat dH).tugs∧(f.getD l[k].ship.toNat dH).tugs≤4:=by
 rw [pOk,qget hk,zvI,zvN] at h
 simp only [jJ,decide_eq_true_eq] at h
 obtain ⟨⟨_,hf⟩,hp,_⟩:=h
 refine ⟨⟨hp.1,hp.2.1⟩,⟨hp.2.2.1,hp.2.2.2.1⟩,?_⟩
 simp only [zvk,jJ,decide_eq_true_eq] at hf
 have:=hf.2 l[k].ship.toNat (by omega)
 simp only [shOk,zvj,In,jJ,decide_eq_true_eq] at this
 exact this.1.2
theorem zKb {l:List DDuty} {d:DDuty} {j:Nat}:(l ++ List.replicate (j+1) d).flatMap Enc.enc=(l ++ List.replicate j d).flatMap Enc.enc ++ Enc.enc d:=by
 rw [List.replicate_succ',← List.append_assoc,List.flatMap_append (xs:=l ++ List.replicate j d)];simp
theorem zKc {c:DChart} {h:Hp} (hc:Enc.ok h c) {p:DPassage} (hp:Enc.ok h p) (h1:0≤p.seg∧p.seg < c.segments.l.length):Enc.ok h (zxA (Con.con c) p p):=by
 have hs:p.seg.toNat < c.segments.l.length:=by omega
 have o3:=hc.2.el hs
 show I64 _∧I64 _∧I64 _∧I64 _
 rw [zxA,zvK _ _ hs]
 refine ⟨hp.2.2.1,hp.2.2.2,?_,?_⟩
 ·dsimp only;split
  ·exact o3.1
  ·exact o3.2.1
 ·dsimp only;split
  ·exact o3.2.1
  ·exact o3.1
theorem zKd {c:DChart} {h:Hp} (hc:Enc.ok h c) {f:List DShip} {l:List DPassage} {k:Nat} (hl:∀ x ∈ l,Enc.ok h x) (hk:k≤l.length) (hp:∀ i,i < k→pOk (Con.con c) f l i=true):∀ x ∈ tugL (Con.con c) f (l.take k),Enc.ok h x:=by
 intro x hx
 obtain ⟨p,hp1,hp2⟩:=List.mem_flatMap.1 hx
 obtain ⟨i,hi,rfl⟩:=List.getElem_of_mem hp1
 rw [List.length_take] at hi
 rw [List.getElem_take] at hp2
 have hi':i < l.length:=by omega
 rw [(List.mem_replicate.1 hp2).2]
 exact zKc hc (hl _ (List.getElem_mem hi')) (zKa hi' (hp i (by omega))).2.1
theorem z0j (c:DChart) (f:Sl DShip) (a:Sl DPassage) (h:Hp) (hc:Enc.ok h c) (hf:f.Ok h) (ha:a.Ok h):Ct jV 284 [c.v,f.val,a.val] h fun v h'=>∃ s:Sl DDuty,v=.tuple #[s.val,.bool (zJ4 (Con.con c) f.l a.l).isSome]∧s.l=(zJ4 (Con.con c) f.l a.l).getD []∧s.Ok h'∧Mine h h' s:=by
 have hl:=ha.max
 have hl2:=hf.max
 refine zdn (fun A W=>by simp) Tryz.func284 rfl rfl (by simp) fun W0=>?_
 refine Wk ?_
 refine zl0 (ι:=Nat) (fun k=>⟨[(1,true,.c (.v f.val)),(3,true,.c (.p 0 0)),(8,true,.c (.s 1)),(15,true,.c (.v a.val)),(16,true,.c (.v (.int .i64 a.l.length))),(17,true,.c (.v (.int .i64 k)))],[(0,.box 57 [.v c.points.val,.v c.segments.val]),(1,.row 303 4 (tugL (Con.con c) f.l (a.l.take k)).length ((tugL (Con.con c) f.l (a.l.take k)).flatMap Enc.enc))],h,2⟩) (fun k=>k≤a.l.length∧(∀ i,i < k→pOk (Con.con c) f.l a.l i=true)∧(tugL (Con.con c) f.l (a.l.take k)).length≤12) (fun k=>a.l.length - k) 0 ⟨Nat.zero_le _,zvf,Nat.zero_le _⟩ [0,1] ?_ ?_
 ·refine Evs ?_
  exact Gk
 intro k hk
 refine Wk ?_
 refine zc9 rfl (fun hd=>?_) (fun hd=>?_)
 ·have hlt:=zjH hd
  repeat' first|refine Wa ?_|refine zhF (fun _=>zZl c f _ _ hc hf) ?_|(simp only [go_sem,jq,jj,jy,jv,jk,jx,zky ha hlt,ha.some hlt,hlt,jW];try rfl)|refine Wb ?_|fail
  refine zc9 rfl (fun hx=>?_) (fun hx=>?_)
  ·rw [Bool.not_eq_true'] at hx
   refine Wk ?_
   rw [zJ8 hlt (by rw [pOk,qget hlt];exact hx)]
   exact ⟨⟨none,0,[]⟩,rfl,rfl,zmo,Mine.nil⟩
  rw [Bool.not_eq_false'] at hx
  have hx:pOk (Con.con c) f.l a.l k=true:=by rw [pOk,qget hlt];exact hx
  have hall:=zvd hk.2.1 hx
  obtain ⟨⟨i1,i2⟩,⟨g1,g2⟩,t1,t2⟩:=zKa hlt hx
  have hsh:a.l[k].ship.toNat < f.l.length:=by omega
  have hshi:a.l[k].ship < (f.l.length:Int):=i2
  have htg:(f.l.getD a.l[k].ship.toNat dH).tugs=f.l[a.l[k].ship.toNat].tugs:=by simp [List.getD_eq_getElem?_getD,hsh]
  rw [htg] at t1 t2
  obtain ⟨w,hw⟩:∃ w:Nat,f.l[a.l[k].ship.toNat].tugs=w:=⟨_,(Int.toNat_of_nonneg t1).symm⟩
  have hL:=hk.2.2
  have hsucc:=zJ6 (c:=Con.con c) (f:=f.l) hlt
  rw [zJ3,htg,hw,jW] at hsucc
  generalize hT:tugL (Con.con c) f.l (a.l.take k)=T0 at hsucc hL
  repeat' first|refine Wa ?_|refine zhF (fun _=>zZi c _ _ hc g1 g2) ?_|(simp only [go_sem,jq,jj,jy,jv,jk,jx];try rfl)|refine Wb ?_|fail
  refine zl0 (ι:=Nat) (fun j=>⟨[(1,true,.c (.v f.val)),(3,true,.c (.p 0 0)),(8,true,.c (.s 1)),(10,true,.c (.p 2 0)),(11,true,.c (.v (.int .i64 (zvF (Con.con c) a.l[k]).1))),(12,true,.c (.v (.int .i64 (zvF (Con.con c) a.l[k]).2))),(13,true,.c (.v (.int .i64 j))),(15,true,.c (.v a.val)),(16,true,.c (.v (.int .i64 a.l.length))),(17,true,.c (.v (.int .i64 k)))],[(0,.box 57 [.v c.points.val,.v c.segments.val]),(1,.row 303 4 (T0 ++ List.replicate j (zxA (Con.con c) a.l[k] a.l[k])).length ((T0 ++ List.replicate j (zxA (Con.con c) a.l[k] a.l[k])).flatMap Enc.enc)),(2,.box 222 [.v (.int .i64 a.l[k].ship),.v (.int .i64 a.l[k].seg),.v (.bool a.l[k].toward),.v (.int .i64 a.l[k].start),.v (.int .i64 a.l[k].fin)])],h,3⟩) (fun j=>j≤w) (fun j=>w - j) 0 (Nat.zero_le _) [0,1,2] ?_ ?_
  ·refine Evs ?_
   simp only [List.replicate_zero,List.append_nil]
   exact Gk
  intro j hj
  have hlj:(T0 ++ List.replicate j (zxA (Con.con c) a.l[k] a.l[k])).length=T0.length+j:=by rw [List.length_append,List.length_replicate]
  have hlj1:(T0 ++ List.replicate (j+1) (zxA (Con.con c) a.l[k] a.l[k])).length=(T0 ++ List.replicate j (zxA (Con.con c) a.l[k] a.l[k])).length+1:=by simp only [List.length_append,List.length_replicate];omega
  have hlf:=ziq (f:=Enc.enc) (k:=4) (fun x:DDuty=>rfl) (l:=T0 ++ List.replicate j (zxA (Con.con c) a.l[k] a.l[k]))
  have hnx:=zKb (l:=T0) (d:=zxA (Con.con c) a.l[k] a.l[k]) (j:=j)
  repeat' first|refine Wa ?_|(simp only [go_sem,jq,jj,jy,jv,jk,jx,zlT hf hsh,hf.some hsh,i1,hshi,hw];try rfl)|refine Wb ?_|fail
  refine zc9 rfl (fun hq=>?_) (fun hq=>?_)
  ·have hjw:=zjH hq
   refine Wk ?_
   refine ⟨by simp only [maxLen];omega,by omega,?_⟩
   refine Wk ?_
   refine ⟨j+1,[0,4,2],hjw,by omega,?_⟩
   refine Evs ?_
   rw [hnx,hlj1]
   exact ⟨zjB (zjA hjw (by omega)),rfl,rfl,by decide⟩
  ·have hge:=zjI hq
   have hje:j=w:=by omega
   subst hje
   rw [← hsucc]
   refine Wk ?_
   refine zc9 rfl (fun hm=>?_) (fun hm=>?_)
   ·have hm:=of_decide_eq_true hm
    refine Wk ?_
    rw [zJ9 (k:=k+1) (by omega)]
    exact ⟨⟨none,0,[]⟩,rfl,rfl,zmo,Mine.nil⟩
   ·have hm:=of_decide_eq_false hm
    refine Wk ?_
    refine ⟨k+1,[0,1],⟨hlt,hall,by omega⟩,by omega,?_⟩
    refine Evs ?_
    refine ⟨zjB (zjA hlt (by omega)),?_⟩
    exact Gk
 ·have hge:=zjI hd
  have hke:k=a.l.length:=by omega
  have htk:a.l.take k=a.l:=by rw [hke,List.take_length]
  have hF:zJ4 (Con.con c) f.l a.l=some (tugL (Con.con c) f.l (a.l.take k)):=by rw [zJ4,htk,if_pos ⟨fun i hi=>hk.2.1 i (by omega),by rw [← htk];exact hk.2.2⟩]
  refine zc6 ?_
  refine Evs ?_
  refine zlE 1 (tugL (Con.con c) f.l (a.l.take k)) rfl rfl rfl rfl (by decide) (zKd hc ha.2.2.2.1 hk.1 hk.2.1) h (Hp.le_refl _) (Mines.flat (fun _=>rfl) (fun _=>trivial)) fun s h' e1 e2 e3 e4=>?_
  refine Wk ?_
  rw [hF]
  exact ⟨s,rfl,e1,e2,e4⟩
theorem zKe (c:DChart) (f:Sl DShip) (a:Sl DPassage) (h:Hp) (hc:Enc.ok h c) (hf:f.Ok h) (ha:a.Ok h):Ct jV 262 [c.v,f.val,a.val] h fun v h'=>∃ s:Sl DDuty,v=.tuple #[s.val,.bool (zJ4 (Con.con c) f.l a.l).isSome]∧s.l=(zJ4 (Con.con c) f.l a.l).getD []∧s.Ok h'∧Mine h h' s:=by
 have hl:=ha.max
 have hl2:=hf.max
 refine zdn (fun A W=>by simp) Tryz.func262 rfl rfl (by simp) fun W0=>?_
 refine Wk ?_
 refine zl0 (ι:=Nat) (fun k=>⟨[(1,true,.c (.v f.val)),(3,true,.c (.p 0 0)),(8,true,.c (.s 1)),(12,true,.c (.v a.val)),(13,true,.c (.v (.int .i64 a.l.length))),(14,true,.c (.v (.int .i64 k)))],[(0,.box 57 [.v c.points.val,.v c.segments.val]),(1,.row 303 4 (tugL (Con.con c) f.l (a.l.take k)).length ((tugL (Con.con c) f.l (a.l.take k)).flatMap Enc.enc))],h,2⟩) (fun k=>k≤a.l.length∧(∀ i,i < k→pOk (Con.con c) f.l a.l i=true)∧(tugL (Con.con c) f.l (a.l.take k)).length≤12) (fun k=>a.l.length - k) 0 ⟨Nat.zero_le _,zvf,Nat.zero_le _⟩ [0,1] ?_ ?_
 ·refine Evs ?_
  exact Gk
 intro k hk
 refine Wk ?_
 refine zc9 rfl (fun hd=>?_) (fun hd=>?_)
 ·have hlt:=zjH hd
  repeat' first|refine Wa ?_|refine zhF (fun _=>zvP c f _ _ hc hf) ?_|(simp only [go_sem,jq,jj,jy,jv,jk,jx,zky ha hlt,ha.some hlt,hlt,jW];try rfl)|refine Wb ?_|fail
  refine zc9 rfl (fun hx=>?_) (fun hx=>?_)
  ·rw [Bool.not_eq_true'] at hx
   refine Wk ?_
   rw [zJ8 hlt (by rw [pOk,qget hlt];exact hx)]
   exact ⟨⟨none,0,[]⟩,rfl,rfl,zmo,Mine.nil⟩
  rw [Bool.not_eq_false'] at hx
  have hx:pOk (Con.con c) f.l a.l k=true:=by rw [pOk,qget hlt];exact hx
  have hall:=zvd hk.2.1 hx
  obtain ⟨⟨i1,i2⟩,⟨g1,g2⟩,t1,t2⟩:=zKa hlt hx
  have hsh:a.l[k].ship.toNat < f.l.length:=by omega
  have hshi:a.l[k].ship < (f.l.length:Int):=i2
  have htg:(f.l.getD a.l[k].ship.toNat dH).tugs=f.l[a.l[k].ship.toNat].tugs:=by simp [List.getD_eq_getElem?_getD,hsh]
  rw [htg] at t1 t2
  obtain ⟨w,hw⟩:∃ w:Nat,f.l[a.l[k].ship.toNat].tugs=w:=⟨_,(Int.toNat_of_nonneg t1).symm⟩
  have hL:=hk.2.2
  have hsucc:=zJ6 (c:=Con.con c) (f:=f.l) hlt
  rw [zJ3,htg,hw,jW] at hsucc
  generalize hT:tugL (Con.con c) f.l (a.l.take k)=T0 at hsucc hL
  repeat' first|refine Wa ?_|(simp only [go_sem,jq,jj,jy,jv,jk,jx,zlT hf hsh,hf.some hsh,i1,hshi,hw];try rfl)|refine Wb ?_|fail
  refine zl0 (ι:=Nat) (fun j=>⟨[(1,true,.c (.v f.val)),(3,true,.c (.p 0 0)),(8,true,.c (.s 1)),(10,true,.c (.p 2 0)),(28,true,.c (.v (.int .i64 w))),(29,true,.c (.v (.int .i64 j))),(12,true,.c (.v a.val)),(13,true,.c (.v (.int .i64 a.l.length))),(14,true,.c (.v (.int .i64 k)))],[(0,.box 57 [.v c.points.val,.v c.segments.val]),(1,.row 303 4 (T0 ++ List.replicate j (zxA (Con.con c) a.l[k] a.l[k])).length ((T0 ++ List.replicate j (zxA (Con.con c) a.l[k] a.l[k])).flatMap Enc.enc)),(2,.box 222 [.v (.int .i64 a.l[k].ship),.v (.int .i64 a.l[k].seg),.v (.bool a.l[k].toward),.v (.int .i64 a.l[k].start),.v (.int .i64 a.l[k].fin)])],h,3⟩) (fun j=>j≤w) (fun j=>w - j) 0 (Nat.zero_le _) [0,1,2] ?_ ?_
  ·refine Evs ?_
   simp only [List.replicate_zero,List.append_nil]
   exact Gk
  intro j hj
  have hlj:(T0 ++ List.replicate j (zxA (Con.con c) a.l[k] a.l[k])).length=T0.length+j:=by rw [List.length_append,List.length_replicate]
  have hlj1:(T0 ++ List.replicate (j+1) (zxA (Con.con c) a.l[k] a.l[k])).length=(T0 ++ List.replicate j (zxA (Con.con c) a.l[k] a.l[k])).length+1:=by simp only [List.length_append,List.length_replicate];omega
  have hlf:=ziq (f:=Enc.enc) (k:=4) (fun x:DDuty=>rfl) (l:=T0 ++ List.replicate j (zxA (Con.con c) a.l[k] a.l[k]))
  have hnx:=zKb (l:=T0) (d:=zxA (Con.con c) a.l[k] a.l[k]) (j:=j)
  refine Wk ?_
  refine zc9 rfl (fun hq=>?_) (fun hq=>?_)
  ·have hjw:=zjH hq
   repeat' first|refine Wa ?_|refine zhF (fun _=>zxF c _ _ _ hc g1 g2 g1 g2) ?_|(simp only [go_sem,jq,jj,jy,jv,jk,jx];try rfl)|refine Wb ?_|fail
   refine ⟨by simp only [maxLen];omega,by omega,?_⟩
   refine Wk ?_
   refine ⟨j+1,[0,4,2],hjw,by omega,?_⟩
   refine Evs ?_
   rw [hnx,hlj1]
   exact ⟨zjB (zjA hjw (by omega)),rfl,rfl,by decide⟩
  ·have hge:=zjI hq
   have hje:j=w:=by omega
   subst hje
   rw [← hsucc]
   refine Wk ?_
   refine zc9 rfl (fun hm=>?_) (fun hm=>?_)
   ·have hm:=of_decide_eq_true hm
    refine Wk ?_
    rw [zJ9 (k:=k+1) (by omega)]
    exact ⟨⟨none,0,[]⟩,rfl,rfl,zmo,Mine.nil⟩
   ·have hm:=of_decide_eq_false hm
    refine Wk ?_
    refine ⟨k+1,[0,1],⟨hlt,hall,by omega⟩,by omega,?_⟩
    refine Evs ?_
    refine ⟨zjB (zjA hlt (by omega)),?_⟩
    exact Gk
 ·have hge:=zjI hd
  have hke:k=a.l.length:=by omega
  have htk:a.l.take k=a.l:=by rw [hke,List.take_length]
  have hF:zJ4 (Con.con c) f.l a.l=some (tugL (Con.con c) f.l (a.l.take k)):=by rw [zJ4,htk,if_pos ⟨fun i hi=>hk.2.1 i (by omega),by rw [← htk];exact hk.2.2⟩]
  refine zc6 ?_
  refine Evs ?_
  refine zlE 1 (tugL (Con.con c) f.l (a.l.take k)) rfl rfl rfl rfl (by decide) (zKd hc ha.2.2.2.1 hk.1 hk.2.1) h (Hp.le_refl _) (Mines.flat (fun _=>rfl) (fun _=>trivial)) fun s h' e1 e2 e3 e4=>?_
  refine Wk ?_
  rw [hF]
  exact ⟨s,rfl,e1,e2,e4⟩
end Go.Proofs.YtbkaaakphpbmiaaGreat
