/- What functions of the given program compute, each as a contract over what its arguments read as. No condition beside those that each theorem states. -/
import Derived.Test.YtjiggadgmmjnhaaGreatXGFloorOf17
set_option linter.unusedVariables false
set_option linter.unusedSimpArgs false
open Nat renaming reduceAdd → yqa, reduceMul → yqb, reduceBEq → yqc, reduceLeDiff → yqd, reduceLT → yqe, reduceEqDiff → yqf
open Bool renaming or_eq_false_iff → yqg, or_eq_true → yqh, and_eq_true → yqi
open Int renaming toNat_natCast → yqj, natCast_nonneg → yqk
namespace Go.Proofs.YtjiggadgmmjnhaaGreat
open Go Go.SL
set_option maxHeartbeats 1000000
def zMi (x:PHarbour) (a:DCall) (o:POption):Bool:=(zMb x a (o.pas.map (·.seg)) o.start).2 && zHN (zMb x a (o.pas.map (·.seg)) o.start).1 o
theorem zMj {l:List DPassage} {k:Nat} (hk:k < l.length):((l.take (k+1)).map (·.seg))=((l.take k).map (·.seg)) ++ [l[k].seg]:=by rw [List.take_succ_eq_append_getElem hk,List.map_append];rfl
theorem zMk (x:DHarbour) (a:DCall) (q:DOption) (h:Hp) (hx:Enc.ok h x) (ha:Enc.ok h a) (hq:Enc.ok h q) (hz:Sz.sz (Con.con q)≤1048576):Ct Tryz.prog 33 [x.v,a.v,q.v] h fun v h'=>v=.bool (zMi (Con.con x) (Con.con a) (Con.con q))∧h'=h:=by
 have hp:=hq.2.2.2
 have hl:=hp.max
 have hz2:q.pas.l.length≤1048576:=by
  have h2:Sz.sz (Con.con q)=Sz.sz (Con.con q.pas):=rfl
  rw [h2] at hz
  have:=zyF hz
  rwa [zyG] at this
 refine Ct.forget ?_
 refine zdn (fun A W=>by simp) Tryz.func33 rfl rfl (by simp) fun W0=>?_
 repeat' first|refine zie rfl ?_|refine zc4 rfl ?_|refine zc7 ?_|refine zc8 ?_|refine zc5 ?_|refine zc6 ?_|(simp (maxSteps:=2000000) only [go_sem,yqa,yqb,yqc,yqd,yqe,yqf];try rfl)|refine zc3 ?_|(refine And.intro ?_ ?_;focus (intros;simp_all only [yqg,yqh,yqi,and_self,true_and,and_true];done))
 refine zma (ι:=Nat) (fun k=>⟨[(3,true,.c (.p 0 0)),(4,true,.c (.p 1 0)),(5,true,.c (.p 2 0)),(6,true,.c (.v (.bool false))),(7,true,.c (.s 3)),(14,true,.c (.v q.pas.val)),(15,true,.c (.v (.int .i64 q.pas.l.length))),(16,true,.c (.v (.int .i64 k)))],[(0,.box 62 [.v (.int .i64 x.forecast.tide.mean),.v x.forecast.tide.parts.val,.v x.forecast.surges.val,.v x.chart.points.val,.v x.chart.segments.val,.v x.fleet.val,.v (.int .i64 x.regime.gap),.v (.bool x.regime.noMeet),.v (.int .i64 x.crew.tugs),.v (.int .i64 x.crew.pilots),.v (.int .i64 x.crew.rest),.v x.crew.moves.val]),(1,.box 79 [.v (.int .i64 a.ship),.v (.int .i64 a.src),.v (.int .i64 a.dst),.v (.int .i64 a.ready),.v (.int .i64 a.due)]),(2,.box 89 [.v (.int .i64 q.start),.v (.int .i64 q.arr),.v (.int .i64 q.cost),.v q.pas.val]),(3,.row 3 1 k (((q.pas.l.take k).map (·.seg)).flatMap Enc.enc))],h,4⟩) (fun k=>k≤q.pas.l.length) (fun k=>q.pas.l.length - k) 0 (Nat.zero_le _) [0,1,2,3] ?_ ?_
 ·simp (maxSteps:=2000000) only [go_sem,yqa,yqb,yqc,yqd,yqe,yqf]
  repeat' first|exact rfl|exact trivial|assumption|decide|refine And.intro ?_ ?_
 intro k hk
 repeat' first|refine zie rfl ?_|refine zc4 rfl ?_|refine zc7 ?_|refine zc8 ?_|refine zc5 ?_|refine zc6 ?_|(simp (maxSteps:=2000000) only [go_sem,yqa,yqb,yqc,yqd,yqe,yqf];try rfl)|refine zc3 ?_|(refine And.intro ?_ ?_;focus (intros;simp_all only [yqg,yqh,yqi,and_self,true_and,and_true];done))
 refine zc9 rfl (fun hd=>?_) (fun hd=>?_)
 ·have hlt:=zjH hd
  repeat' first|refine zie rfl ?_|refine zc4 rfl ?_|refine zc7 ?_|refine zc8 ?_|refine zc5 ?_|refine zc6 ?_|(simp (maxSteps:=2000000) only [go_sem,yqa,yqb,yqc,yqd,yqe,yqf,zkU hp hlt,hp.some hlt,hlt,yqj];try rfl)|refine zc3 ?_|(refine And.intro ?_ ?_;focus (intros;simp_all only [yqg,yqh,yqi,and_self,true_and,and_true];done))
  refine ⟨by simp only [maxLen];omega,by omega,?_⟩
  repeat' first|refine zie rfl ?_|refine zc4 rfl ?_|refine zc7 ?_|refine zc8 ?_|refine zc5 ?_|refine zc6 ?_|(simp (maxSteps:=2000000) only [go_sem,yqa,yqb,yqc,yqd,yqe,yqf];try rfl)|refine zc3 ?_|(refine And.intro ?_ ?_;focus (intros;simp_all only [yqg,yqh,yqi,and_self,true_and,and_true];done))
  refine ⟨k+1,[0,1,2,6],hlt,by omega,?_⟩
  simp (maxSteps:=2000000) only [go_sem,yqa,yqb,yqc,yqd,yqe,yqf]
  rw [zMj hlt,List.flatMap_append]
  repeat' first|exact zjB (zjA hlt (by omega))|exact rfl|exact trivial|assumption|decide|refine And.intro ?_ ?_
 ·have hge:=zjI hd
  obtain rfl:k=q.pas.l.length:=by omega
  rw [List.take_length]
  refine zc6 ?_
  simp (maxSteps:=2000000) only [go_sem,yqa,yqb,yqc,yqd,yqe,yqf]
  refine zJQ 3 (q.pas.l.map (·.seg)) rfl rfl (List.length_map ..).symm rfl fun s h1 e1 R1 f1 le1 k1=>?_
  have le1:h.le h1:=le1
  have ok1:s.Ok h1:=R1.ok (by decide) fun y hy=>by
   rw [e1] at hy
   obtain ⟨p,hp1,rfl⟩:=List.mem_map.1 hy
   exact (hp.2.2.2.1 p hp1).2.1
  repeat' first|refine zie rfl ?_|refine zc4 rfl ?_|refine zc7 ?_|refine zc8 ?_|refine zc5 ?_|refine zc6 ?_|(simp (maxSteps:=2000000) only [go_sem,yqa,yqb,yqc,yqd,yqe,yqf];try rfl)|refine zc3 ?_|(refine And.intro ?_ ?_;focus (intros;simp_all only [yqg,yqh,yqi,and_self,true_and,and_true];done))
  refine zkr (zMg x a s q.start _ (Enc.mono le1 hx) (Enc.mono le1 ha) ok1 hq.1 (by rw [e1,List.length_map];exact hz2)) rfl ?_
  rintro v h2 le2 ⟨z,rfl,ez,okz,mz⟩
  have hq2:Enc.ok h2 q:=Enc.mono (Hp.le_trans le1 le2) hq
  repeat' first|refine zie rfl ?_|refine zc4 rfl ?_|refine zc7 ?_|refine zc8 ?_|refine zc5 ?_|refine zc6 ?_|refine zhF (fun _=>zHP z q _ okz hq2) ?_|(simp (maxSteps:=2000000) only [go_sem,yqa,yqb,yqc,yqd,yqe,yqf];try rfl)|refine zc3 ?_|(refine And.intro ?_ ?_;focus (intros;simp_all only [yqg,yqh,yqi,and_self,true_and,and_true];done))
  rw [ez,e1,zMi,show (Con.con q).pas=q.pas.l from zsm _]
  rfl
theorem zMl (x:DHarbour) (a:DCall) (q:DOption) (h:Hp) (hx:Enc.ok h x) (ha:Enc.ok h a) (hq:Enc.ok h q) (hz:Sz.sz (Con.con q)≤1048576):Ct Tryz.prog 31 [x.v,a.v,q.v] h fun v h'=>v=.bool (zMi (Con.con x) (Con.con a) (Con.con q))∧h'=h:=by
 have hp:=hq.2.2.2
 have hl:=hp.max
 have hz2:q.pas.l.length≤1048576:=by
  have h2:Sz.sz (Con.con q)=Sz.sz (Con.con q.pas):=rfl
  rw [h2] at hz
  have:=zyF hz
  rwa [zyG] at this
 refine Ct.forget ?_
 refine zdn (fun A W=>by simp) Tryz.func31 rfl rfl (by simp) fun W0=>?_
 repeat' first|refine zie rfl ?_|refine zc4 rfl ?_|refine zc7 ?_|refine zc8 ?_|refine zc5 ?_|refine zc6 ?_|refine zhF (fun _=>zJn x a _ hx ha) ?_|(simp (maxSteps:=2000000) only [go_sem,yqa,yqb,yqc,yqd,yqe,yqf];try rfl)|refine zc3 ?_|(refine And.intro ?_ ?_;focus (intros;simp_all only [yqg,yqh,yqi,and_self,true_and,and_true];done))
 refine zc9 rfl (fun hcq=>?_) (fun hcq=>?_)
 ·rw [Bool.not_eq_true'] at hcq
  have hF:zMi (Con.con x) a (Con.con q)=false:=by
   rw [zMi,zMc (by rw [show zJj (Con.con x) a=false from hcq];rfl)];rfl
  rw [show (Con.con a:DCall)=a from rfl,hF]
  repeat' first|refine zie rfl ?_|refine zc4 rfl ?_|refine zc7 ?_|refine zc8 ?_|refine zc5 ?_|refine zc6 ?_|(simp (maxSteps:=2000000) only [go_sem,yqa,yqb,yqc,yqd,yqe,yqf];try rfl)|refine zc3 ?_|(refine And.intro ?_ ?_;focus (intros;simp_all only [yqg,yqh,yqi,and_self,true_and,and_true];done))
 repeat' first|refine zie rfl ?_|refine zc4 rfl ?_|refine zc7 ?_|refine zc8 ?_|refine zc5 ?_|refine zc6 ?_|(simp (maxSteps:=2000000) only [go_sem,yqa,yqb,yqc,yqd,yqe,yqf];try rfl)|refine zc3 ?_|(refine And.intro ?_ ?_;focus (intros;simp_all only [yqg,yqh,yqi,and_self,true_and,and_true];done))
 refine zma (ι:=Nat) (fun k=>⟨[(3,true,.c (.p 0 0)),(4,true,.c (.p 1 0)),(5,true,.c (.p 2 0)),(6,true,.c (.v (.bool false))),(7,true,.c (.s 3)),(18,true,.c (.v q.pas.val)),(19,true,.c (.v (.int .i64 q.pas.l.length))),(20,true,.c (.v (.int .i64 k)))],[(0,.box 62 [.v (.int .i64 x.forecast.tide.mean),.v x.forecast.tide.parts.val,.v x.forecast.surges.val,.v x.chart.points.val,.v x.chart.segments.val,.v x.fleet.val,.v (.int .i64 x.regime.gap),.v (.bool x.regime.noMeet),.v (.int .i64 x.crew.tugs),.v (.int .i64 x.crew.pilots),.v (.int .i64 x.crew.rest),.v x.crew.moves.val]),(1,.box 79 [.v (.int .i64 a.ship),.v (.int .i64 a.src),.v (.int .i64 a.dst),.v (.int .i64 a.ready),.v (.int .i64 a.due)]),(2,.box 89 [.v (.int .i64 q.start),.v (.int .i64 q.arr),.v (.int .i64 q.cost),.v q.pas.val]),(3,.row 3 1 k (((q.pas.l.take k).map (·.seg)).flatMap Enc.enc))],h,4⟩) (fun k=>k≤q.pas.l.length) (fun k=>q.pas.l.length - k) 0 (Nat.zero_le _) [0,1,2,3] ?_ ?_
 ·simp (maxSteps:=2000000) only [go_sem,yqa,yqb,yqc,yqd,yqe,yqf]
  repeat' first|exact rfl|exact trivial|assumption|decide|refine And.intro ?_ ?_
 intro k hk
 repeat' first|refine zie rfl ?_|refine zc4 rfl ?_|refine zc7 ?_|refine zc8 ?_|refine zc5 ?_|refine zc6 ?_|(simp (maxSteps:=2000000) only [go_sem,yqa,yqb,yqc,yqd,yqe,yqf];try rfl)|refine zc3 ?_|(refine And.intro ?_ ?_;focus (intros;simp_all only [yqg,yqh,yqi,and_self,true_and,and_true];done))
 refine zc9 rfl (fun hd=>?_) (fun hd=>?_)
 ·have hlt:=zjH hd
  repeat' first|refine zie rfl ?_|refine zc4 rfl ?_|refine zc7 ?_|refine zc8 ?_|refine zc5 ?_|refine zc6 ?_|(simp (maxSteps:=2000000) only [go_sem,yqa,yqb,yqc,yqd,yqe,yqf,zkU hp hlt,hp.some hlt,hlt,yqj];try rfl)|refine zc3 ?_|(refine And.intro ?_ ?_;focus (intros;simp_all only [yqg,yqh,yqi,and_self,true_and,and_true];done))
  refine ⟨by simp only [maxLen];omega,by omega,?_⟩
  repeat' first|refine zie rfl ?_|refine zc4 rfl ?_|refine zc7 ?_|refine zc8 ?_|refine zc5 ?_|refine zc6 ?_|(simp (maxSteps:=2000000) only [go_sem,yqa,yqb,yqc,yqd,yqe,yqf];try rfl)|refine zc3 ?_|(refine And.intro ?_ ?_;focus (intros;simp_all only [yqg,yqh,yqi,and_self,true_and,and_true];done))
  refine ⟨k+1,[0,1,2,6],hlt,by omega,?_⟩
  simp (maxSteps:=2000000) only [go_sem,yqa,yqb,yqc,yqd,yqe,yqf]
  rw [zMj hlt,List.flatMap_append]
  repeat' first|exact zjB (zjA hlt (by omega))|exact rfl|exact trivial|assumption|decide|refine And.intro ?_ ?_
 ·have hge:=zjI hd
  obtain rfl:k=q.pas.l.length:=by omega
  rw [List.take_length]
  refine zc6 ?_
  simp (maxSteps:=2000000) only [go_sem,yqa,yqb,yqc,yqd,yqe,yqf]
  refine zJQ 3 (q.pas.l.map (·.seg)) rfl rfl (List.length_map ..).symm rfl fun s h1 e1 R1 f1 le1 k1=>?_
  have le1:h.le h1:=le1
  have ok1:s.Ok h1:=R1.ok (by decide) fun y hy=>by
   rw [e1] at hy
   obtain ⟨p,hp1,rfl⟩:=List.mem_map.1 hy
   exact (hp.2.2.2.1 p hp1).2.1
  repeat' first|refine zie rfl ?_|refine zc4 rfl ?_|refine zc7 ?_|refine zc8 ?_|refine zc5 ?_|refine zc6 ?_|(simp (maxSteps:=2000000) only [go_sem,yqa,yqb,yqc,yqd,yqe,yqf];try rfl)|refine zc3 ?_|(refine And.intro ?_ ?_;focus (intros;simp_all only [yqg,yqh,yqi,and_self,true_and,and_true];done))
  refine zkr (zMh x a s q.start _ (Enc.mono le1 hx) (Enc.mono le1 ha) ok1 hq.1 (by rw [e1,List.length_map];exact hz2)) rfl ?_
  rintro v h2 le2 ⟨z,rfl,ez,okz,mz⟩
  have hq2:Enc.ok h2 q:=Enc.mono (Hp.le_trans le1 le2) hq
  repeat' first|refine zie rfl ?_|refine zc4 rfl ?_|refine zc7 ?_|refine zc8 ?_|refine zc5 ?_|refine zc6 ?_|refine zhF (fun _=>zHQ z q _ okz hq2) ?_|(simp (maxSteps:=2000000) only [go_sem,yqa,yqb,yqc,yqd,yqe,yqf];try rfl)|refine zc3 ?_|(refine And.intro ?_ ?_;focus (intros;simp_all only [yqg,yqh,yqi,and_self,true_and,and_true];done))
  rw [ez,e1,zMi,show (Con.con q).pas=q.pas.l from zsm _]
  rfl
theorem zMm {α:Type} [Enc α] [Foot α] {h h' h2:Hp} {l:List α} (hle:h'.le h2) (hok:∀ x ∈ l,Enc.ok h' x) (H:Mines h h' l):Mines h h2 l :=
 ⟨fun x hx=>(Foot.loc (hok x hx) (H.1 x hx) fun b _ o ho=>hle b o ho).2,H.2.1,H.2.2⟩
def zMn (opt:Int→POption × Bool) (due:Int):Nat→Int→List POption→List POption
 | 0,_,acc=>acc
 | f+1,s,acc=>if s≤due∧acc.length < 8 then zMn opt due f (IntKind.i64.wrap (s+15)) (if (opt s).2=true then acc ++ [(opt s).1] else acc) else acc
def zMo (x:PHarbour) (a:DCall):List POption:=if zJj x a=true then (match zLn x.chart a.src a.dst with|none=>[]|some r=>zMn (zL2 x a r) a.due 200 a.ready []) else []
theorem zMp {g:List DSegment} {a:Int} {r r2:List Int}:∀ {k:Nat},(∀ i,i < k→r.getD i 0=r2.getD i 0)→ptsK g a r k=ptsK g a r2 k
 | 0,_=>rfl
 | k+1,h=>by rw [ptsK,ptsK,zMp (fun i hi=>h i (by omega)),h k (by omega)]
theorem zMq {g:List DSegment} {a to:Int}:∀ {f:Nat} {pts0 r0:List Int},ptsK g a r0 r0.length=some pts0→∀ r ∈ zK2 g to f pts0 r0,∃ pts,ptsK g a r r.length=some pts∧pts.getLast?.getD 0=to
 | 0,pts0,r0,h0,r,hr=>by cases hr
 | f+1,pts0,r0,h0,r,hr=>by
  unfold zK2 at hr
  split at hr
  ·rename_i hl
   rw [List.mem_singleton.1 hr]
   exact ⟨pts0,h0,hl⟩
  ·obtain ⟨i,hi,hr⟩:=List.mem_flatMap.1 hr
   have hi:=List.mem_range.1 hi
   unfold wkAt at hr
   split at hr
   ·rename_i hc
    refine zMq (f:=f) ?_ r hr
    have h1:ptsK g a (r0 ++ [(i:Int)]) r0.length=some pts0:=by
     rw [zMp (r2:=r0) (fun j hj=>by rw [List.getD_eq_getElem?_getD,List.getElem?_append_left hj,← List.getD_eq_getElem?_getD]),h0]
    rw [List.length_append,List.length_singleton,ptsK,h1,Option.bind_some]
    have hg:(r0 ++ [(i:Int)]).getD r0.length 0=(i:Int):=by simp
    rw [hg,zJS,if_pos (by omega),yqj]
    have hc1:¬ (zJR (g.getD i dG) (pts0.getLast?.getD 0) < 0∨zJR (g.getD i dG) (pts0.getLast?.getD 0) ∈ pts0):=by
     rw [not_or]
     have:=hc.1
     unfold zK1 at this
     exact ⟨by omega,hc.2⟩
    rw [if_neg hc1];rfl
   ·cases hr
theorem zMr {x:DHarbour} {a:DCall} {r:List Int} (hok:zJj (Con.con x) a=true) (hb:zLn (Con.con x.chart) a.src a.dst=some r):cvOk (Con.con x) a r=true:=by
 obtain ⟨hfo,hch,⟨hsi,hsh,hso⟩,hs0,hs1,ha0,ha1,hb0,hb1,hne,_⟩:=zLS hok
 have hm:r ∈ zLi (Con.con x.chart) a.src a.dst:=zLo (acc:=none) (fun y hy=>by cases hy) (fun y hy=>hy) hb
 rw [zLi] at hm
 split at hm
 ·rename_i hin
  obtain ⟨pts,h1,h2⟩:=zMq (a:=a.src) (pts0:=[a.src]) (r0:=[]) rfl r hm
  have hlen:=zJ7 h1
  have hpts:zJU (Con.con x.chart) a.src r=some pts:=by
   rw [zKm hch,zKi (by rw [zJY];exact ⟨ha0,ha1⟩),h1]
  have hR:zKk (Con.con x.chart) a.src r=true:=by rw [zKk,hpts];rfl
  have h0:0 < r.length:=by
   rcases Nat.eq_zero_or_pos r.length with e|e
   ·exfalso
    rw [e,ptsK] at h1
    rw [← Option.some.inj h1] at h2
    exact hne h2
   ·exact e
  have hld:zLQ (Con.con x) a r=true:=by
   rw [zLQ,show (Con.con x).chart=Con.con x.chart from rfl,hpts]
   dsimp only
   rw [← zKa hlen,h2,decide_eq_true rfl]
  rw [cvOk,hld,show (Con.con x).forecast=Con.con x.forecast from rfl,show (Con.con x).chart=Con.con x.chart from rfl,zLT hok,hR,decide_eq_true h0];rfl
 ·cases hm
theorem zMs {x:PHarbour} {a:DCall} (h:zJj x a=false):zMo x a=[]:=by rw [zMo,if_neg (by rw [h];exact Bool.false_ne_true)]
theorem zMt {opt:Int→POption × Bool} {due:Int}:∀ {f:Nat} {s:Int} {acc:List POption},¬ (s≤due∧acc.length < 8)→zMn opt due f s acc=acc
 | 0,_,_,_=>rfl
 | f+1,s,acc,h=>by rw [zMn,if_neg h]
theorem zMu (l:List DOption):(l.map Con.con).length=l.length:=List.length_map ..
set_option maxRecDepth 30000 in
theorem zMv (x:DHarbour) (a:DCall) (h:Hp) (hx:Enc.ok h x) (ha:Enc.ok h a):Ct Tryz.prog 42 [x.v,a.v] h fun v h'=>∃ s:Sl DOption,v=s.val∧s.l.map Con.con=zMo (Con.con x) a∧s.Ok h'∧Mine h h' s:=by
 refine zdn (fun A W=>by simp) Tryz.func42 rfl rfl (by simp) fun W0=>?_
 repeat' first|refine zie rfl ?_|refine zc4 rfl ?_|refine zc7 ?_|refine zc8 ?_|refine zc5 ?_|refine zc6 ?_|refine zhF (fun _=>zJm x a _ hx ha) ?_|(simp (maxSteps:=2000000) only [go_sem,yqa,yqb,yqc,yqd,yqe,yqf];try rfl)|refine zc3 ?_|(refine And.intro ?_ ?_;focus (intros;simp_all only [yqg,yqh,yqi,and_self,true_and,and_true];done))
 refine zc9 rfl (fun hq=>?_) (fun hq=>?_)
 ·rw [Bool.not_eq_true'] at hq
  rw [zMs (x:=Con.con x) (a:=a) hq]
  repeat' first|refine zie rfl ?_|refine zc4 rfl ?_|refine zc7 ?_|refine zc8 ?_|refine zc5 ?_|refine zc6 ?_|(simp (maxSteps:=2000000) only [go_sem,yqa,yqb,yqc,yqd,yqe,yqf];try rfl)|refine zc3 ?_|(refine And.intro ?_ ?_;focus (intros;simp_all only [yqg,yqh,yqi,and_self,true_and,and_true];done))
  exact ⟨⟨none,0,[]⟩,rfl,rfl,zmy,Mine.nil⟩
 rw [Bool.not_eq_false'] at hq
 have hok:zJj (Con.con x) a=true:=hq
 obtain ⟨_,_,_,_,_,_,_,_,_,_,hrd0,hrd1,hrd2,hdue⟩:=zLS hok
 repeat' first|refine zie rfl ?_|refine zc4 rfl ?_|refine zc7 ?_|refine zc8 ?_|refine zc5 ?_|refine zc6 ?_|(simp (maxSteps:=2000000) only [go_sem,yqa,yqb,yqc,yqd,yqe,yqf];try rfl)|refine zc3 ?_|(refine And.intro ?_ ?_;focus (intros;simp_all only [yqg,yqh,yqi,and_self,true_and,and_true];done))
 refine zkr (zLv x.chart a.src a.dst _ hx.2.1 ha.2.1) rfl ?_
 rintro v h1 le1 ⟨r,rfl,er,okr⟩
 have hx1:Enc.ok h1 x:=Enc.mono le1 hx
 have ha1:Enc.ok h1 a:=Enc.mono le1 ha
 have hrz:r.l.length≤1048576:=by
  rw [er]
  cases hb:zLn (Con.con x.chart) a.src a.dst with
  | none=>exact Nat.zero_le _
  | some y=>have:=zLp hb;show y.length≤_;omega
 repeat' first|refine zie rfl ?_|refine zc4 rfl ?_|refine zc7 ?_|refine zc8 ?_|refine zc5 ?_|refine zc6 ?_|(simp (maxSteps:=2000000) only [go_sem,yqa,yqb,yqc,yqd,yqe,yqf];try rfl)|refine zc3 ?_|(refine And.intro ?_ ?_;focus (intros;simp_all only [yqg,yqh,yqi,and_self,true_and,and_true];done))
 refine zkr (zLX x a r _ hx1 ha1 okr hrz hok) rfl ?_
 rintro v h2 le2 ⟨w,m,u,rfl,ow,om,ou,hl⟩
 cases hb:zLn (Con.con x.chart) a.src a.dst with
 | none =>
  have hF:zMo (Con.con x) a=[]:=by rw [zMo,if_pos hok,show (Con.con x).chart=Con.con x.chart from rfl,hb]
  rw [hF]
  repeat' first|refine zie rfl ?_|refine zc4 rfl ?_|refine zc7 ?_|refine zc8 ?_|refine zc5 ?_|refine zc6 ?_|(simp (maxSteps:=2000000) only [go_sem,yqa,yqb,yqc,yqd,yqe,yqf];try rfl)|refine zc3 ?_|(refine And.intro ?_ ?_;focus (intros;simp_all only [yqg,yqh,yqi,and_self,true_and,and_true];done))
  refine zc9 rfl (fun hq=>?_) (fun hq=>?_)
  case refine_2=>simp at hq
  repeat' first|refine zie rfl ?_|refine zc4 rfl ?_|refine zc7 ?_|refine zc8 ?_|refine zc5 ?_|refine zc6 ?_|(simp (maxSteps:=2000000) only [go_sem,yqa,yqb,yqc,yqd,yqe,yqf];try rfl)|refine zc3 ?_|(refine And.intro ?_ ?_;focus (intros;simp_all only [yqg,yqh,yqi,and_self,true_and,and_true];done))
  exact ⟨⟨none,0,[]⟩,rfl,rfl,zmy,Mine.nil⟩
 | some rl =>
 rw [hb] at er
 have er:r.l=rl:=er
 have hcv:cvOk (Con.con x) a r.l=true:=by rw [er];exact zMr hok hb
 have hl:=hl hcv
 have hv:voOk (Con.con x.forecast) (Con.con x.chart) (zLR (Con.con x) a) a.src r.l=true:=by
  rw [cvOk,yqi] at hcv;exact hcv.2
 have le12:=Hp.le_trans le1 le2
 have hx2:Enc.ok h2 x:=Enc.mono le2 hx1
 have ha2:Enc.ok h2 a:=Enc.mono le2 ha1
 have okr2:=okr.mono le2
 rw [hcv]
 repeat' first|refine zie rfl ?_|refine zc4 rfl ?_|refine zc7 ?_|refine zc8 ?_|refine zc5 ?_|refine zc6 ?_|(simp (maxSteps:=2000000) only [go_sem,yqa,yqb,yqc,yqd,yqe,yqf];try rfl)|refine zc3 ?_|(refine And.intro ?_ ?_;focus (intros;simp_all only [yqg,yqh,yqi,and_self,true_and,and_true];done))
 refine zc9 rfl (fun hq=>?_) (fun hq=>?_)
 ·simp at hq
 repeat' first|refine zie rfl ?_|refine zc4 rfl ?_|refine zc7 ?_|refine zc8 ?_|refine zc5 ?_|refine zc6 ?_|(simp (maxSteps:=2000000) only [go_sem,yqa,yqb,yqc,yqd,yqe,yqf];try rfl)|refine zc3 ?_|(refine And.intro ?_ ?_;focus (intros;simp_all only [yqg,yqh,yqi,and_self,true_and,and_true];done))
 have hF:zMo (Con.con x) a=zMn (zL2 (Con.con x) a r.l) a.due 200 a.ready []:=by
  rw [zMo,if_pos hok,show (Con.con x).chart=Con.con x.chart from rfl,hb,er]
 obtain ⟨G,hG⟩:∃ G,zMn (zL2 (Con.con x) a r.l) a.due 200 a.ready []=G:=⟨_,rfl⟩
 rw [hF,hG]
 refine zma (ι:=Nat × Int × List DOption × Hp) (fun i=>⟨[(2,true,.c (.p 0 0)),(3,true,.c (.p 1 0)),(4,true,.c (.v (.slice none 0 0))),(5,true,.c (.v r.val)),(7,true,.c (.p 2 0)),(9,true,.c (.s 3)),(10,true,.c (.v (.int .i64 i.2.1)))],[(0,.box 62 [.v (.int .i64 x.forecast.tide.mean),.v x.forecast.tide.parts.val,.v x.forecast.surges.val,.v x.chart.points.val,.v x.chart.segments.val,.v x.fleet.val,.v (.int .i64 x.regime.gap),.v (.bool x.regime.noMeet),.v (.int .i64 x.crew.tugs),.v (.int .i64 x.crew.pilots),.v (.int .i64 x.crew.rest),.v x.crew.moves.val]),(1,.box 79 [.v (.int .i64 a.ship),.v (.int .i64 a.src),.v (.int .i64 a.dst),.v (.int .i64 a.ready),.v (.int .i64 a.due)]),(2,.box 161 [.v w.val,.v m.val,.v u.val]),(3,.row 89 4 i.2.2.1.length (i.2.2.1.flatMap Enc.enc))],i.2.2.2,4⟩) (fun i=>zMn (zL2 (Con.con x) a r.l) a.due i.1 i.2.1 (i.2.2.1.map Con.con)=G∧(0≤i.2.1∧i.2.1≤2895)∧a.due < i.2.1+15 * i.1∧(∀ y ∈ i.2.2.1,Enc.ok i.2.2.2 y)∧Mines h i.2.2.2 i.2.2.1∧h2.le i.2.2.2) (fun i=>i.1) (200,a.ready,[],h2) ⟨hG,⟨hrd0,by simp only;omega⟩,by simp only;omega,fun y hy=>(by cases hy),Mines.nil,Hp.le_refl _⟩ [0,1,2,3] ?_ ?_
 ·simp (maxSteps:=2000000) only [go_sem,yqa,yqb,yqc,yqd,yqe,yqf]
  repeat' first|exact rfl|exact trivial|assumption|decide|refine And.intro ?_ ?_
 rintro ⟨f,s,acc,hk⟩ ⟨hgo,⟨hsl0,hsl1⟩,hfu,hacok,hacm,hle⟩
 simp only at hgo hsl0 hsl1 hfu hacok hacm hle
 have hxk:Enc.ok hk x:=Enc.mono hle hx2
 have hak:Enc.ok hk a:=Enc.mono hle ha2
 have hs64:I64 s:=by unfold I64;omega
 repeat' first|refine zie rfl ?_|refine zc4 rfl ?_|refine zc7 ?_|refine zc8 ?_|refine zc5 ?_|refine zc6 ?_|(simp (maxSteps:=2000000) only [go_sem,yqa,yqb,yqc,yqd,yqe,yqf];try rfl)|refine zc3 ?_|(refine And.intro ?_ ?_;focus (intros;simp_all only [yqg,yqh,yqi,and_self,true_and,and_true];done))
 refine zc9 rfl (fun hd=>?_) (fun hd=>?_)
 ·have hd1:=Bool.and_eq_true_iff.1 hd
  have hc1:s≤a.due:=of_decide_eq_true hd1.1
  have hc2:acc.length < 8:=by have:=of_decide_eq_true hd1.2;omega
  obtain ⟨f,rfl⟩:∃ g,f=g+1:=⟨f - 1,by omega⟩
  have hw15:IntKind.i64.wrap (s+15)=s+15:=by rw [zjz (by omega)]
  repeat' first|refine zie rfl ?_|refine zc4 rfl ?_|refine zc7 ?_|refine zc8 ?_|refine zc5 ?_|refine zc6 ?_|(simp (maxSteps:=2000000) only [go_sem,yqa,yqb,yqc,yqd,yqe,yqf];try rfl)|refine zc3 ?_|(refine And.intro ?_ ?_;focus (intros;simp_all only [yqg,yqh,yqi,and_self,true_and,and_true];done))
  refine zkr (zL9 x a w m u r s _ hxk hak (ow.mono hle) (om.mono hle) (ou.mono hle) (okr2.mono hle) hs64 hrz hok hv hl) rfl ?_
  rintro v h3 le3 ⟨z,rfl,ez,okz,mz⟩
  have hle3:=Hp.le_trans hle le3
  have hle03:=Hp.le_trans le12 hle3
  cases hbo:(zL2 (Con.con x) a r.l s).2 with
  | false =>
   repeat' first|refine zie rfl ?_|refine zc4 rfl ?_|refine zc7 ?_|refine zc8 ?_|refine zc5 ?_|refine zc6 ?_|(simp (maxSteps:=2000000) only [go_sem,yqa,yqb,yqc,yqd,yqe,yqf];try rfl)|refine zc3 ?_|(refine And.intro ?_ ?_;focus (intros;simp_all only [yqg,yqh,yqi,and_self,true_and,and_true];done))
   refine zc9 rfl (fun hq=>?_) (fun hq=>?_)
   ·cases hq
   repeat' first|refine zie rfl ?_|refine zc4 rfl ?_|refine zc7 ?_|refine zc8 ?_|refine zc5 ?_|refine zc6 ?_|(simp (maxSteps:=2000000) only [go_sem,yqa,yqb,yqc,yqd,yqe,yqf];try rfl)|refine zc3 ?_|(refine And.intro ?_ ?_;focus (intros;simp_all only [yqg,yqh,yqi,and_self,true_and,and_true];done))
   refine ⟨(f,IntKind.i64.wrap (s+15),acc,h3),[0,1,2,3],⟨?_,by simp only [hw15];omega,by simp only [hw15];omega,fun y hy=>Enc.mono le3 (hacok y hy),zMm le3 hacok hacm,hle3⟩,by simp only;omega,?_⟩
   ·rw [← hgo,zMn,if_pos ⟨hc1,by rw [zMu];exact hc2⟩,hbo,if_neg Bool.false_ne_true]
   simp (maxSteps:=2000000) only [go_sem,yqa,yqb,yqc,yqd,yqe,yqf]
   repeat' first|exact rfl|exact trivial|assumption|decide|refine And.intro ?_ ?_
  | true =>
   repeat' first|refine zie rfl ?_|refine zc4 rfl ?_|refine zc7 ?_|refine zc8 ?_|refine zc5 ?_|refine zc6 ?_|(simp (maxSteps:=2000000) only [go_sem,yqa,yqb,yqc,yqd,yqe,yqf];try rfl)|refine zc3 ?_|(refine And.intro ?_ ?_;focus (intros;simp_all only [yqg,yqh,yqi,and_self,true_and,and_true];done))
   refine zc9 rfl (fun hq=>?_) (fun hq=>?_)
   case refine_2=>cases hq
   refine zc4 rfl ?_
   simp (maxSteps:=2000000) only [go_sem,yqa,yqb,yqc,yqd,yqe,yqf]
   refine ⟨by simp only [maxLen];omega,by omega,?_⟩
   repeat' first|refine zie rfl ?_|refine zc4 rfl ?_|refine zc7 ?_|refine zc8 ?_|refine zc5 ?_|refine zc6 ?_|(simp (maxSteps:=2000000) only [go_sem,yqa,yqb,yqc,yqd,yqe,yqf];try rfl)|refine zc3 ?_|(refine And.intro ?_ ?_;focus (intros;simp_all only [yqg,yqh,yqi,and_self,true_and,and_true];done))
   refine ⟨(f,IntKind.i64.wrap (s+15),acc ++ [z],h3),[0,1,2,6],⟨?_,by simp only [hw15];omega,by simp only [hw15];omega,fun y hy=>?_,Mines.snoc hacm hacok le3 (Hp.le_trans le12 hle) mz,hle3⟩,by simp only;omega,?_⟩
   ·rw [← hgo,zMn,if_pos ⟨hc1,by rw [zMu];exact hc2⟩,hbo,if_pos rfl,List.map_append,← ez];rfl
   ·rcases List.mem_append.1 hy with hy|hy
    ·exact Enc.mono le3 (hacok y hy)
    ·rw [List.mem_singleton.1 hy];exact okz
   simp (maxSteps:=2000000) only [go_sem,yqa,yqb,yqc,yqd,yqe,yqf]
   simp only [List.flatMap_append,List.length_append]
   repeat' first|exact rfl|exact trivial|assumption|decide|refine And.intro ?_ ?_
 ·have hstop:¬ (s≤a.due∧(acc.map Con.con).length < 8):=fun H=>by
   rw [zMu] at H
   have h1:decide (s≤a.due)=true:=decide_eq_true H.1
   have h2:decide (((acc.length:Nat):Int) < 8)=true:=decide_eq_true (by omega)
   have:(decide (s≤a.due) && decide (((acc.length:Nat):Int) < 8))=false:=hd
   rw [h1,h2] at this;cases this
  rw [← hgo,zMt hstop]
  refine zc6 ?_
  simp (maxSteps:=2000000) only [go_sem,yqa,yqb,yqc,yqd,yqe,yqf]
  refine zlX 3 acc rfl rfl rfl rfl (by decide) hacok h (Hp.le_trans le12 hle) hacm fun q h' e2 e3 e4 e5=>?_
  repeat' first|refine zie rfl ?_|refine zc4 rfl ?_|refine zc7 ?_|refine zc8 ?_|refine zc5 ?_|refine zc6 ?_|(simp (maxSteps:=2000000) only [go_sem,yqa,yqb,yqc,yqd,yqe,yqf];try rfl)|refine zc3 ?_|(refine And.intro ?_ ?_;focus (intros;simp_all only [yqg,yqh,yqi,and_self,true_and,and_true];done))
  exact ⟨q,rfl,by rw [e2],e3,e5⟩
set_option maxRecDepth 30000 in
theorem zMw (x:DHarbour) (a:DCall) (h:Hp) (hx:Enc.ok h x) (ha:Enc.ok h a):Ct Tryz.prog 41 [x.v,a.v] h fun v h'=>∃ s:Sl DOption,v=s.val∧s.l.map Con.con=zMo (Con.con x) a∧s.Ok h'∧Mine h h' s:=by
 refine zdn (fun A W=>by simp) Tryz.func41 rfl rfl (by simp) fun W0=>?_
 repeat' first|refine zie rfl ?_|refine zc4 rfl ?_|refine zc7 ?_|refine zc8 ?_|refine zc5 ?_|refine zc6 ?_|refine zhF (fun _=>zJn x a _ hx ha) ?_|(simp (maxSteps:=2000000) only [go_sem,yqa,yqb,yqc,yqd,yqe,yqf];try rfl)|refine zc3 ?_|(refine And.intro ?_ ?_;focus (intros;simp_all only [yqg,yqh,yqi,and_self,true_and,and_true];done))
 refine zc9 rfl (fun hq=>?_) (fun hq=>?_)
 ·rw [Bool.not_eq_true'] at hq
  rw [zMs (x:=Con.con x) (a:=a) hq]
  repeat' first|refine zie rfl ?_|refine zc4 rfl ?_|refine zc7 ?_|refine zc8 ?_|refine zc5 ?_|refine zc6 ?_|(simp (maxSteps:=2000000) only [go_sem,yqa,yqb,yqc,yqd,yqe,yqf];try rfl)|refine zc3 ?_|(refine And.intro ?_ ?_;focus (intros;simp_all only [yqg,yqh,yqi,and_self,true_and,and_true];done))
  exact ⟨⟨none,0,[]⟩,rfl,rfl,zmy,Mine.nil⟩
 rw [Bool.not_eq_false'] at hq
 have hok:zJj (Con.con x) a=true:=hq
 obtain ⟨_,_,_,_,_,_,_,_,_,_,hrd0,hrd1,hrd2,hdue⟩:=zLS hok
 repeat' first|refine zie rfl ?_|refine zc4 rfl ?_|refine zc7 ?_|refine zc8 ?_|refine zc5 ?_|refine zc6 ?_|(simp (maxSteps:=2000000) only [go_sem,yqa,yqb,yqc,yqd,yqe,yqf];try rfl)|refine zc3 ?_|(refine And.intro ?_ ?_;focus (intros;simp_all only [yqg,yqh,yqi,and_self,true_and,and_true];done))
 refine zkr (zLu x.chart a.src a.dst _ hx.2.1 ha.2.1) rfl ?_
 rintro v h1 le1 ⟨r,rfl,er,okr⟩
 have hx1:Enc.ok h1 x:=Enc.mono le1 hx
 have ha1:Enc.ok h1 a:=Enc.mono le1 ha
 have hrz:r.l.length≤1048576:=by
  rw [er]
  cases hb:zLn (Con.con x.chart) a.src a.dst with
  | none=>exact Nat.zero_le _
  | some y=>have:=zLp hb;show y.length≤_;omega
 cases hb:zLn (Con.con x.chart) a.src a.dst with
 | none =>
  have hF:zMo (Con.con x) a=[]:=by rw [zMo,if_pos hok,show (Con.con x).chart=Con.con x.chart from rfl,hb]
  rw [hF]
  repeat' first|refine zie rfl ?_|refine zc4 rfl ?_|refine zc7 ?_|refine zc8 ?_|refine zc5 ?_|refine zc6 ?_|(simp (maxSteps:=2000000) only [go_sem,yqa,yqb,yqc,yqd,yqe,yqf];try rfl)|refine zc3 ?_|(refine And.intro ?_ ?_;focus (intros;simp_all only [yqg,yqh,yqi,and_self,true_and,and_true];done))
  refine zc9 rfl (fun hq=>?_) (fun hq=>?_)
  case refine_2=>cases hq
  repeat' first|refine zie rfl ?_|refine zc4 rfl ?_|refine zc7 ?_|refine zc8 ?_|refine zc5 ?_|refine zc6 ?_|(simp (maxSteps:=2000000) only [go_sem,yqa,yqb,yqc,yqd,yqe,yqf];try rfl)|refine zc3 ?_|(refine And.intro ?_ ?_;focus (intros;simp_all only [yqg,yqh,yqi,and_self,true_and,and_true];done))
  exact ⟨⟨none,0,[]⟩,rfl,rfl,zmy,Mine.nil⟩
 | some rl =>
 rw [hb] at er
 have er:r.l=rl:=er
 have hcv:cvOk (Con.con x) a r.l=true:=by rw [er];exact zMr hok hb
 have hv:voOk (Con.con x.forecast) (Con.con x.chart) (zLR (Con.con x) a) a.src r.l=true:=by
  rw [cvOk,yqi] at hcv;exact hcv.2
 have hR:zKk (Con.con x.chart) a.src r.l=true:=by
  rw [zLT hok,yqi] at hv;exact hv.1
 obtain ⟨hC,hin,pl,hptl,hpk,hplen,hpx⟩:=zKo hR
 obtain ⟨hfo,hch,⟨hsi,hsh,hso⟩,hs0,hs1,_⟩:=zLS hok
 repeat' first|refine zie rfl ?_|refine zc4 rfl ?_|refine zc7 ?_|refine zc8 ?_|refine zc5 ?_|refine zc6 ?_|(simp (maxSteps:=2000000) only [go_sem,yqa,yqb,yqc,yqd,yqe,yqf];try rfl)|refine zc3 ?_|(refine And.intro ?_ ?_;focus (intros;simp_all only [yqg,yqh,yqi,and_self,true_and,and_true];done))
 refine zc9 rfl (fun hq=>?_) (fun hq=>?_)
 ·cases hq
 repeat' first|refine zie rfl ?_|refine zc4 rfl ?_|refine zc7 ?_|refine zc8 ?_|refine zc5 ?_|refine zc6 ?_|(simp (maxSteps:=2000000) only [go_sem,yqa,yqb,yqc,yqd,yqe,yqf,zl4 hx1.2.2.1 hsi,zlj hx1.2.2.1 hsi,hx1.2.2.1.some hsi,hsi,hs0,hs1,yqj,implies_true,true_and,and_true,and_self];try rfl)|refine zc3 ?_|(refine And.intro ?_ ?_;focus (intros;simp_all only [yqg,yqh,yqi,and_self,true_and,and_true];done))
 refine zkr (zLV x.forecast x.chart x.fleet.l[a.ship.toNat] r _ hx1.1 hx1.2.1 (hx1.2.2.1.el hsi) okr hrz) rfl ?_
 rintro v h3 le3 ⟨u,rfl,eu,uok⟩
 have hx3:Enc.ok h3 x:=Enc.mono le3 hx1
 repeat' first|refine zie rfl ?_|refine zc4 rfl ?_|refine zc7 ?_|refine zc8 ?_|refine zc5 ?_|refine zc6 ?_|(simp (maxSteps:=2000000) only [go_sem,yqa,yqb,yqc,yqd,yqe,yqf];try rfl)|refine zc3 ?_|(refine And.intro ?_ ?_;focus (intros;simp_all only [yqg,yqh,yqi,and_self,true_and,and_true];done))
 refine zkr (zKs x.chart a.src r _ hx3.2.1 ha1.2.1 (okr.mono le3) hrz) rfl ?_
 rintro v h2 le4 ⟨p,rfl,ep,pok⟩
 rw [hptl] at ep
 have ep:p.l=pl:=ep
 have le2:=Hp.le_trans le3 le4
 have le12:=Hp.le_trans le1 le2
 have hx2:Enc.ok h2 x:=Enc.mono le2 hx1
 have ha2:Enc.ok h2 a:=Enc.mono le2 ha1
 have okr2:=okr.mono le2
 have uok2:=uok.mono le4
 have hun:u.l.length=r.l.length:=by have:=congrArg List.length eu;rwa [List.length_map,zLz,rmap_len] at this
 have hr0:0 < r.l.length:=by
  rw [zLT hok,yqi,decide_eq_true_eq] at hv;exact hv.2
 repeat' first|refine zie rfl ?_|refine zc4 rfl ?_|refine zc7 ?_|refine zc8 ?_|refine zc5 ?_|refine zc6 ?_|(simp (maxSteps:=2000000) only [go_sem,yqa,yqb,yqc,yqd,yqe,yqf];try rfl)|refine zc3 ?_|(refine And.intro ?_ ?_;focus (intros;simp_all only [yqg,yqh,yqi,and_self,true_and,and_true];done))
 have hF:zMo (Con.con x) a=zMn (zL2 (Con.con x) a r.l) a.due 200 a.ready []:=by
  rw [zMo,if_pos hok,show (Con.con x).chart=Con.con x.chart from rfl,hb,er]
 obtain ⟨G,hG⟩:∃ G,zMn (zL2 (Con.con x) a r.l) a.due 200 a.ready []=G:=⟨_,rfl⟩
 rw [hF,hG]
 refine zma (ι:=Nat × Int × List DOption × Hp) (fun i=>⟨[(2,true,.c (.p 0 0)),(3,true,.c (.p 1 0)),(4,true,.c (.v (.slice none 0 0))),(5,true,.c (.v r.val)),(7,true,.c (.p 2 0)),(8,true,.c (.v u.val)),(9,true,.c (.v p.val)),(10,true,.c (.s 3)),(11,true,.c (.v (.int .i64 i.2.1)))],[(0,.box 62 [.v (.int .i64 x.forecast.tide.mean),.v x.forecast.tide.parts.val,.v x.forecast.surges.val,.v x.chart.points.val,.v x.chart.segments.val,.v x.fleet.val,.v (.int .i64 x.regime.gap),.v (.bool x.regime.noMeet),.v (.int .i64 x.crew.tugs),.v (.int .i64 x.crew.pilots),.v (.int .i64 x.crew.rest),.v x.crew.moves.val]),(1,.box 79 [.v (.int .i64 a.ship),.v (.int .i64 a.src),.v (.int .i64 a.dst),.v (.int .i64 a.ready),.v (.int .i64 a.due)]),(2,.box 156 [.v (.string x.fleet.l[a.ship.toNat].name),.v (.int .i64 x.fleet.l[a.ship.toNat].length),.v (.int .i64 x.fleet.l[a.ship.toNat].draught),.v (.int .i64 x.fleet.l[a.ship.toNat].line),.v (.int .i64 x.fleet.l[a.ship.toNat].tugs),.v (.bool x.fleet.l[a.ship.toNat].slow)]),(3,.row 89 4 i.2.2.1.length (i.2.2.1.flatMap Enc.enc))],i.2.2.2,4⟩) (fun i=>zMn (zL2 (Con.con x) a r.l) a.due i.1 i.2.1 (i.2.2.1.map Con.con)=G∧(0≤i.2.1∧i.2.1≤2895)∧a.due < i.2.1+15 * i.1∧(∀ y ∈ i.2.2.1,Enc.ok i.2.2.2 y)∧Mines h i.2.2.2 i.2.2.1∧h2.le i.2.2.2) (fun i=>i.1) (200,a.ready,[],h2) ⟨hG,⟨hrd0,by simp only;omega⟩,by simp only;omega,fun y hy=>(by cases hy),Mines.nil,Hp.le_refl _⟩ [0,1,2,3] ?_ ?_
 ·simp (maxSteps:=2000000) only [go_sem,yqa,yqb,yqc,yqd,yqe,yqf]
  repeat' first|exact rfl|exact trivial|assumption|decide|refine And.intro ?_ ?_
 rintro ⟨f,s,acc,hk⟩ ⟨hgo,⟨hsl0,hsl1⟩,hfu,hacok,hacm,hle⟩
 simp only at hgo hsl0 hsl1 hfu hacok hacm hle
 have hxk:Enc.ok hk x:=Enc.mono hle hx2
 have hak:Enc.ok hk a:=Enc.mono hle ha2
 have hs64:I64 s:=by unfold I64;omega
 repeat' first|refine zie rfl ?_|refine zc4 rfl ?_|refine zc7 ?_|refine zc8 ?_|refine zc5 ?_|refine zc6 ?_|(simp (maxSteps:=2000000) only [go_sem,yqa,yqb,yqc,yqd,yqe,yqf];try rfl)|refine zc3 ?_|(refine And.intro ?_ ?_;focus (intros;simp_all only [yqg,yqh,yqi,and_self,true_and,and_true];done))
 refine zc9 rfl (fun hd=>?_) (fun hd=>?_)
 ·have hd1:=Bool.and_eq_true_iff.1 hd
  have hc1:s≤a.due:=of_decide_eq_true hd1.1
  have hc2:acc.length < 8:=by have:=of_decide_eq_true hd1.2;omega
  obtain ⟨f,rfl⟩:∃ g,f=g+1:=⟨f - 1,by omega⟩
  have hw15:IntKind.i64.wrap (s+15)=s+15:=by rw [zjz (by omega)]
  repeat' first|refine zie rfl ?_|refine zc4 rfl ?_|refine zc7 ?_|refine zc8 ?_|refine zc5 ?_|refine zc6 ?_|(simp (maxSteps:=2000000) only [go_sem,yqa,yqb,yqc,yqd,yqe,yqf];try rfl)|refine zc3 ?_|(refine And.intro ?_ ?_;focus (intros;simp_all only [yqg,yqh,yqi,and_self,true_and,and_true];done))
  refine zkr (zLO x.chart x.fleet.l[a.ship.toNat] p r u s _ hxk.2.1 (hxk.2.2.1.el hsi) (pok.mono hle) (okr2.mono hle) (uok2.mono hle) hs64 hun.symm (by rw [ep,hun];exact hplen) (by omega) (by omega) (fun i hi=>by rw [← zr8];exact zKp hpk (Nat.le_refl _) i hi hi) (fun i hi=>by rw [← zJY];exact hpx _ (by rw [← ep];exact List.getElem_mem hi))) rfl ?_
  rintro v h5 le5 ⟨q,rfl,eq,okq⟩
  have hSR:zLF (zLy (Con.con x.chart) p.l r.l.length) (minL (Con.con x.chart) x.fleet.l[a.ship.toNat] r.l r.l.length) (u.l.map (·.l)) s=zLP (Con.con x.forecast) (Con.con x.chart) (zLR (Con.con x) a) a.src r.l s:=by
   rw [zLP,if_pos hv,hptl,eu,ep,hsh];rfl
  rw [hSR] at eq ⊢
  have hOpt:zL2 (Con.con x) a r.l s=match zLP (Con.con x.forecast) (Con.con x.chart) (zLR (Con.con x) a) a.src r.l s with|none=>(zLZ,false)|some q=>zL1 (Con.con x) a r.l q s:=rfl
  cases hsl:zLP (Con.con x.forecast) (Con.con x.chart) (zLR (Con.con x) a) a.src r.l s with
  | none =>
   rw [hsl] at hOpt
   repeat' first|refine zie rfl ?_|refine zc4 rfl ?_|refine zc7 ?_|refine zc8 ?_|refine zc5 ?_|refine zc6 ?_|(simp (maxSteps:=2000000) only [go_sem,yqa,yqb,yqc,yqd,yqe,yqf];try rfl)|refine zc3 ?_|(refine And.intro ?_ ?_;focus (intros;simp_all only [yqg,yqh,yqi,and_self,true_and,and_true];done))
   refine zc9 rfl (fun hq=>?_) (fun hq=>?_)
   case refine_2=>cases hq
   repeat' first|refine zie rfl ?_|refine zc4 rfl ?_|refine zc7 ?_|refine zc8 ?_|refine zc5 ?_|refine zc6 ?_|(simp (maxSteps:=2000000) only [go_sem,yqa,yqb,yqc,yqd,yqe,yqf];try rfl)|refine zc3 ?_|(refine And.intro ?_ ?_;focus (intros;simp_all only [yqg,yqh,yqi,and_self,true_and,and_true];done))
   refine ⟨(f,IntKind.i64.wrap (s+15),acc,h5),[0,1,2,3],⟨?_,by simp only [hw15];omega,by simp only [hw15];omega,fun y hy=>Enc.mono le5 (hacok y hy),zMm le5 hacok hacm,Hp.le_trans hle le5⟩,by simp only;omega,?_⟩
   ·rw [← hgo,zMn,if_pos ⟨hc1,by rw [zMu];exact hc2⟩,hOpt,if_neg Bool.false_ne_true]
   have hle05:=Hp.le_trans le12 (Hp.le_trans hle le5)
   simp (maxSteps:=2000000) only [go_sem,yqa,yqb,yqc,yqd,yqe,yqf]
   repeat' first|exact rfl|exact trivial|assumption|decide|refine And.intro ?_ ?_
  | some sl =>
  obtain ⟨hl1,hl2,hl3⟩:=zMe hsl
  rw [hsl] at hOpt eq
  have eq:q.l=sl:=eq
  have hOpt:zL2 (Con.con x) a r.l s=zL1 (Con.con x) a r.l sl s:=hOpt
  have hq0:0 < q.l.length:=by rw [eq];exact hl2
  have hqst:q.l[0]=s:=by rw [← iget hq0,eq];exact hl3
  repeat' first|refine zie rfl ?_|refine zc4 rfl ?_|refine zc7 ?_|refine zc8 ?_|refine zc5 ?_|refine zc6 ?_|(simp (maxSteps:=2000000) only [go_sem,yqa,yqb,yqc,yqd,yqe,yqf];try rfl)|refine zc3 ?_|(refine And.intro ?_ ?_;focus (intros;simp_all only [yqg,yqh,yqi,and_self,true_and,and_true];done))
  refine zc9 rfl (fun hq=>?_) (fun hq=>?_)
  ·cases hq
  repeat' first|refine zie rfl ?_|refine zc4 rfl ?_|refine zc7 ?_|refine zc8 ?_|refine zc5 ?_|refine zc6 ?_|(simp (maxSteps:=2000000) only [go_sem,yqa,yqb,yqc,yqd,yqe,yqf];try rfl)|refine zc3 ?_|(refine And.intro ?_ ?_;focus (intros;simp_all only [yqg,yqh,yqi,and_self,true_and,and_true];done))
  refine zkr (zMa x a r q _ (Enc.mono le5 hxk) (Enc.mono le5 hak) ((okr2.mono hle).mono le5) okq hrz hok hR hq0) rfl ?_
  rintro v h3 le6 ⟨z,rfl,ez,okz,mz⟩
  have le3:=Hp.le_trans le5 le6
  have mz:=mz.back le5
  rw [hqst,eq,← hOpt] at ez ⊢
  have hle3:=Hp.le_trans hle le3
  have hle03:=Hp.le_trans le12 hle3
  cases hbo:(zL2 (Con.con x) a r.l s).2 with
  | false =>
   repeat' first|refine zie rfl ?_|refine zc4 rfl ?_|refine zc7 ?_|refine zc8 ?_|refine zc5 ?_|refine zc6 ?_|(simp (maxSteps:=2000000) only [go_sem,yqa,yqb,yqc,yqd,yqe,yqf];try rfl)|refine zc3 ?_|(refine And.intro ?_ ?_;focus (intros;simp_all only [yqg,yqh,yqi,and_self,true_and,and_true];done))
   refine zc9 rfl (fun hq=>?_) (fun hq=>?_)
   ·cases hq
   repeat' first|refine zie rfl ?_|refine zc4 rfl ?_|refine zc7 ?_|refine zc8 ?_|refine zc5 ?_|refine zc6 ?_|(simp (maxSteps:=2000000) only [go_sem,yqa,yqb,yqc,yqd,yqe,yqf];try rfl)|refine zc3 ?_|(refine And.intro ?_ ?_;focus (intros;simp_all only [yqg,yqh,yqi,and_self,true_and,and_true];done))
   refine ⟨(f,IntKind.i64.wrap (s+15),acc,h3),[0,1,2,3],⟨?_,by simp only [hw15];omega,by simp only [hw15];omega,fun y hy=>Enc.mono le3 (hacok y hy),zMm le3 hacok hacm,hle3⟩,by simp only;omega,?_⟩
   ·rw [← hgo,zMn,if_pos ⟨hc1,by rw [zMu];exact hc2⟩,hbo,if_neg Bool.false_ne_true]
   simp (maxSteps:=2000000) only [go_sem,yqa,yqb,yqc,yqd,yqe,yqf]
   repeat' first|exact rfl|exact trivial|assumption|decide|refine And.intro ?_ ?_
  | true =>
   repeat' first|refine zie rfl ?_|refine zc4 rfl ?_|refine zc7 ?_|refine zc8 ?_|refine zc5 ?_|refine zc6 ?_|(simp (maxSteps:=2000000) only [go_sem,yqa,yqb,yqc,yqd,yqe,yqf];try rfl)|refine zc3 ?_|(refine And.intro ?_ ?_;focus (intros;simp_all only [yqg,yqh,yqi,and_self,true_and,and_true];done))
   refine zc9 rfl (fun hq=>?_) (fun hq=>?_)
   case refine_2=>cases hq
   refine zc4 rfl ?_
   simp (maxSteps:=2000000) only [go_sem,yqa,yqb,yqc,yqd,yqe,yqf]
   refine ⟨by simp only [maxLen];omega,by omega,?_⟩
   repeat' first|refine zie rfl ?_|refine zc4 rfl ?_|refine zc7 ?_|refine zc8 ?_|refine zc5 ?_|refine zc6 ?_|(simp (maxSteps:=2000000) only [go_sem,yqa,yqb,yqc,yqd,yqe,yqf];try rfl)|refine zc3 ?_|(refine And.intro ?_ ?_;focus (intros;simp_all only [yqg,yqh,yqi,and_self,true_and,and_true];done))
   refine ⟨(f,IntKind.i64.wrap (s+15),acc ++ [z],h3),[0,1,2,6],⟨?_,by simp only [hw15];omega,by simp only [hw15];omega,fun y hy=>?_,Mines.snoc hacm hacok le3 (Hp.le_trans le12 hle) mz,hle3⟩,by simp only;omega,?_⟩
   ·rw [← hgo,zMn,if_pos ⟨hc1,by rw [zMu];exact hc2⟩,hbo,if_pos rfl,List.map_append,← ez];rfl
   ·rcases List.mem_append.1 hy with hy|hy
    ·exact Enc.mono le3 (hacok y hy)
    ·rw [List.mem_singleton.1 hy];exact okz
   simp (maxSteps:=2000000) only [go_sem,yqa,yqb,yqc,yqd,yqe,yqf]
   simp only [List.flatMap_append,List.length_append]
   repeat' first|exact rfl|exact trivial|assumption|decide|refine And.intro ?_ ?_
 ·have hstop:¬ (s≤a.due∧(acc.map Con.con).length < 8):=fun H=>by
   rw [zMu] at H
   have h1:decide (s≤a.due)=true:=decide_eq_true H.1
   have h2:decide (((acc.length:Nat):Int) < 8)=true:=decide_eq_true (by omega)
   have:(decide (s≤a.due) && decide (((acc.length:Nat):Int) < 8))=false:=hd
   rw [h1,h2] at this;cases this
  rw [← hgo,zMt hstop]
  refine zc6 ?_
  simp (maxSteps:=2000000) only [go_sem,yqa,yqb,yqc,yqd,yqe,yqf]
  refine zlX 3 acc rfl rfl rfl rfl (by decide) hacok h (Hp.le_trans le12 hle) hacm fun q h' e2 e3 e4 e5=>?_
  repeat' first|refine zie rfl ?_|refine zc4 rfl ?_|refine zc7 ?_|refine zc8 ?_|refine zc5 ?_|refine zc6 ?_|(simp (maxSteps:=2000000) only [go_sem,yqa,yqb,yqc,yqd,yqe,yqf];try rfl)|refine zc3 ?_|(refine And.intro ?_ ?_;focus (intros;simp_all only [yqg,yqh,yqi,and_self,true_and,and_true];done))
  exact ⟨q,rfl,by rw [e2],e3,e5⟩
end Go.Proofs.YtjiggadgmmjnhaaGreat
namespace Go.Proofs.YtjiggadgmmjnhaaGreat
open Go Go.SL
set_option maxHeartbeats 1000000
def zMx (x:PHarbour) (a:DCall):Int:=if zHT (zMo x a) < 0 then -1 else ((zMo x a).getD (zHT (zMo x a)).toNat zLZ).cost
theorem zMy (l:List POption):(l=[]∧zHT l=-1)∨(0≤zHT l∧zHT l < l.length):=by
 unfold zHT
 rcases zHS (l.map (·.cost)) l.length with ⟨h,e⟩|h
 ·exact .inl ⟨List.length_eq_zero_iff.1 h,e⟩
 ·exact .inr h
theorem zMz {s:Sl DOption} {l:List POption} (h:s.l.map Con.con=l) {i:Nat} (hi:i < s.l.length):(l.getD i zLZ).cost=s.l[i].cost:=by
 subst h
 simp [List.getD_eq_getElem?_getD,hi];rfl
theorem zMA (x:DHarbour) (a:DCall) (h:Hp) (hx:Enc.ok h x) (ha:Enc.ok h a):Ct Tryz.prog 42 [x.v,a.v] h fun v h'=>∃ s:Sl DOption,v=s.val∧Con.con s=zMo (Con.con x) (Con.con a)∧s.Ok h'∧Mine h h' s:=zMv x a h hx ha
theorem zMB (x:DHarbour) (a:DCall) (h:Hp) (hx:Enc.ok h x) (ha:Enc.ok h a):Ct Tryz.prog 41 [x.v,a.v] h fun v h'=>∃ s:Sl DOption,v=s.val∧Con.con s=zMo (Con.con x) (Con.con a)∧s.Ok h'∧Mine h h' s:=zMw x a h hx ha
theorem zMC (x:DHarbour) (a:DCall) (h:Hp) (hx:Enc.ok h x) (ha:Enc.ok h a):Ct Tryz.prog 29 [x.v,a.v] h fun v h'=>v=.int .i64 (zMx (Con.con x) (Con.con a))∧h'=h:=by
 refine Ct.forget ?_
 refine zdn (fun A W=>by simp) Tryz.func29 rfl rfl (by simp) fun W0=>?_
 repeat' first|refine zie rfl ?_|refine zc4 rfl ?_|refine zc7 ?_|refine zc8 ?_|refine zc5 ?_|refine zc6 ?_|(simp (maxSteps:=2000000) only [go_sem,yqa,yqb,yqc,yqd,yqe,yqf];try rfl)|refine zc3 ?_|(refine And.intro ?_ ?_;focus (intros;simp_all only [yqg,yqh,yqi,and_self,true_and,and_true];done))
 refine zkr (zMA x a _ hx ha) rfl ?_
 rintro v h1 le1 ⟨s,rfl,es,oks,ms⟩
 have hl:=oks.max
 have es2:s.l.map Con.con=zMo (Con.con x) (Con.con a):=es
 have hln:s.l.length=(zMo (Con.con x) (Con.con a)).length:=by rw [← es2,List.length_map]
 repeat' first|refine zie rfl ?_|refine zc4 rfl ?_|refine zc7 ?_|refine zc8 ?_|refine zc5 ?_|refine zc6 ?_|(simp (maxSteps:=2000000) only [go_sem,yqa,yqb,yqc,yqd,yqe,yqf];try rfl)|refine zc3 ?_|(refine And.intro ?_ ?_;focus (intros;simp_all only [yqg,yqh,yqi,and_self,true_and,and_true];done))
 refine zc9 rfl (fun hq=>?_) (fun hq=>?_)
 ·have h0:s.l.length=0:=by have:=eq_of_beq hq;omega
  repeat' first|refine zie rfl ?_|refine zc4 rfl ?_|refine zc7 ?_|refine zc8 ?_|refine zc5 ?_|refine zc6 ?_|(simp (maxSteps:=2000000) only [go_sem,yqa,yqb,yqc,yqd,yqe,yqf];try rfl)|refine zc3 ?_|(refine And.intro ?_ ?_;focus (intros;simp_all only [yqg,yqh,yqi,and_self,true_and,and_true];done))
  rcases zMy (zMo (Con.con x) (Con.con a)) with ⟨_,e⟩|e
  ·rw [zMx,e];rfl
  ·omega
 have h0:¬ s.l.length=0:=by have:=ne_of_beq_false hq;omega
 rcases zMy (zMo (Con.con x) (Con.con a)) with ⟨e,_⟩|⟨e1,e2⟩
 ·rw [e] at hln;exact (h0 hln).elim
 obtain ⟨c,hc⟩:∃ c,zHT (zMo (Con.con x) (Con.con a))=c:=⟨_,rfl⟩
 have hF:zMx (Con.con x) (Con.con a)=((zMo (Con.con x) (Con.con a)).getD c.toNat zLZ).cost:=by rw [zMx,hc,if_neg (by omega)]
 rw [hc] at e1 e2
 have hci:c.toNat < s.l.length:=by omega
 have hc2:c < (s.l.length:Int):=by omega
 repeat' first|refine zie rfl ?_|refine zc4 rfl ?_|refine zc7 ?_|refine zc8 ?_|refine zc5 ?_|refine zc6 ?_|refine zhF (fun _=>zHX s _ oks) ?_|(simp (maxSteps:=2000000) only [go_sem,yqa,yqb,yqc,yqd,yqe,yqf];try rfl)|refine zc3 ?_|(refine And.intro ?_ ?_;focus (intros;simp_all only [yqg,yqh,yqi,and_self,true_and,and_true];done))
 rw [es,hc]
 simp (maxSteps:=2000000) only [go_sem,yqa,yqb,yqc,yqd,yqe,yqf,zyy oks hci,oks.some hci,hci,e1,hc2,implies_true,true_and,and_true,and_self]
 repeat' first|refine zie rfl ?_|refine zc4 rfl ?_|refine zc7 ?_|refine zc8 ?_|refine zc5 ?_|refine zc6 ?_|(simp (maxSteps:=2000000) only [go_sem,yqa,yqb,yqc,yqd,yqe,yqf];try rfl)|refine zc3 ?_|(refine And.intro ?_ ?_;focus (intros;simp_all only [yqg,yqh,yqi,and_self,true_and,and_true];done))
 rw [hF,zMz es2 hci]
theorem zMD (x:DHarbour) (a:DCall) (h:Hp) (hx:Enc.ok h x) (ha:Enc.ok h a):Ct Tryz.prog 27 [x.v,a.v] h fun v h'=>v=.int .i64 (zMx (Con.con x) (Con.con a))∧h'=h:=by
 refine Ct.forget ?_
 refine zdn (fun A W=>by simp) Tryz.func27 rfl rfl (by simp) fun W0=>?_
 repeat' first|refine zie rfl ?_|refine zc4 rfl ?_|refine zc7 ?_|refine zc8 ?_|refine zc5 ?_|refine zc6 ?_|(simp (maxSteps:=2000000) only [go_sem,yqa,yqb,yqc,yqd,yqe,yqf];try rfl)|refine zc3 ?_|(refine And.intro ?_ ?_;focus (intros;simp_all only [yqg,yqh,yqi,and_self,true_and,and_true];done))
 refine zkr (zMB x a _ hx ha) rfl ?_
 rintro v h1 le1 ⟨s,rfl,es,oks,ms⟩
 have hl:=oks.max
 have es2:s.l.map Con.con=zMo (Con.con x) (Con.con a):=es
 have hln:s.l.length=(zMo (Con.con x) (Con.con a)).length:=by rw [← es2,List.length_map]
 repeat' first|refine zie rfl ?_|refine zc4 rfl ?_|refine zc7 ?_|refine zc8 ?_|refine zc5 ?_|refine zc6 ?_|refine zhF (fun _=>zHW s _ oks) ?_|(simp (maxSteps:=2000000) only [go_sem,yqa,yqb,yqc,yqd,yqe,yqf];try rfl)|refine zc3 ?_|(refine And.intro ?_ ?_;focus (intros;simp_all only [yqg,yqh,yqi,and_self,true_and,and_true];done))
 rw [es]
 obtain ⟨c,hc⟩:∃ c,zHT (zMo (Con.con x) (Con.con a))=c:=⟨_,rfl⟩
 rw [hc]
 refine zc9 rfl (fun hq=>?_) (fun hq=>?_)
 ·have hq:=of_decide_eq_true hq
  repeat' first|refine zie rfl ?_|refine zc4 rfl ?_|refine zc7 ?_|refine zc8 ?_|refine zc5 ?_|refine zc6 ?_|(simp (maxSteps:=2000000) only [go_sem,yqa,yqb,yqc,yqd,yqe,yqf];try rfl)|refine zc3 ?_|(refine And.intro ?_ ?_;focus (intros;simp_all only [yqg,yqh,yqi,and_self,true_and,and_true];done))
  rw [zMx,hc,if_pos hq]
 have hq:=of_decide_eq_false hq
 have hF:zMx (Con.con x) (Con.con a)=((zMo (Con.con x) (Con.con a)).getD c.toNat zLZ).cost:=by rw [zMx,hc,if_neg hq]
 rcases zMy (zMo (Con.con x) (Con.con a)) with ⟨_,e⟩|⟨e1,e2⟩
 ·omega
 rw [hc] at e1 e2
 have hci:c.toNat < s.l.length:=by omega
 have hc2:c < (s.l.length:Int):=by omega
 repeat' first|refine zie rfl ?_|refine zc4 rfl ?_|refine zc7 ?_|refine zc8 ?_|refine zc5 ?_|refine zc6 ?_|(simp (maxSteps:=2000000) only [go_sem,yqa,yqb,yqc,yqd,yqe,yqf,zyy oks hci,oks.some hci,hci,e1,hc2,implies_true,true_and,and_true,and_self];try rfl)|refine zc3 ?_|(refine And.intro ?_ ?_;focus (intros;simp_all only [yqg,yqh,yqi,and_self,true_and,and_true];done))
 rw [hF,zMz es2 hci]
theorem zME {c:PChart} {ship:Int} {s:DShip} {a:Int} {r st:List Int}:(zKE c ship s a r st).length≤8:=by
 rw [zKE]
 split
 ·rename_i h
  have h1:=h.1
  rw [zKD,yqi,yqi] at h1
  obtain ⟨hC,hin,l,hl,hk,hlen,hx⟩:=zKo h1.1.1
  have:=zK6 hC (zJ8 hk) hx
  rw [zKH];omega
 ·exact Nat.zero_le _
theorem zMF (l:List DPassage):Sz.sz l=l.length:=by
 rw [zmD]
 have:(l.map Sz.sz).sum=0:=by induction l with|nil=>rfl|cons x l ih=>rw [List.map_cons,List.sum_cons,ih];rfl
 omega
theorem zMG {x:PHarbour} {a:DCall} {r:List Int} {st:Int}:Sz.sz (zL2 x a r st).1≤8:=by
 show Sz.sz (zL2 x a r st).1.pas≤8
 rw [zMF,zL2]
 split
 ·exact Nat.zero_le _
 ·exact zME
theorem zMH {opt:Int→POption × Bool} {due:Int} (ho:∀ s,Sz.sz (opt s).1≤8):∀ {f:Nat} {s:Int} {acc:List POption},(acc.length≤8∧∀ y ∈ acc,Sz.sz y≤8)→(zMn opt due f s acc).length≤8∧∀ y ∈ zMn opt due f s acc,Sz.sz y≤8
 | 0,_,_,h=>h
 | f+1,s,acc,h=>by
  unfold zMn
  split
  ·rename_i hc
   refine zMH ho ?_
   split
   ·refine ⟨by rw [List.length_append,List.length_singleton];omega,fun y hy=>?_⟩
    rcases List.mem_append.1 hy with hy|hy
    ·exact h.2 y hy
    ·rw [List.mem_singleton.1 hy];exact ho s
   ·exact h
  ·exact h
theorem zMI {x:PHarbour} {a:DCall}:(zMo x a).length≤8∧∀ y ∈ zMo x a,Sz.sz y≤8:=by
 rw [zMo]
 split
 ·split
  ·exact ⟨Nat.zero_le _,fun y hy=>by cases hy⟩
  ·exact zMH (fun s=>zMG) ⟨Nat.zero_le _,fun y hy=>by cases hy⟩
 ·exact ⟨Nat.zero_le _,fun y hy=>by cases hy⟩
theorem zMJ {β:Type} [Sz β] {l:List β} {k:Nat} (h:∀ y ∈ l,Sz.sz y≤k):Sz.sz l≤l.length+l.length * k:=by
 rw [zmD]
 have:(l.map Sz.sz).sum≤l.length * k:=by
  induction l with
  | nil=>simp
  | cons x l ih =>
   rw [List.map_cons,List.sum_cons,List.length_cons,Nat.add_mul,Nat.one_mul]
   have h1:=h x (List.mem_cons_self ..)
   have h2:=ih fun y hy=>h y (List.mem_cons_of_mem _ hy)
   omega
 omega
theorem zMK (x:PHarbour) (a:DCall):Sz.sz (zMo x a)≤1048576:=by
 obtain ⟨h1,h2⟩:=zMI (x:=x) (a:=a)
 have:=zMJ h2
 have:(zMo x a).length * 8≤8 * 8:=Nat.mul_le_mul_right _ h1
 omega
end Go.Proofs.YtjiggadgmmjnhaaGreat
namespace Go.Proofs.YtjiggadgmmjnhaaGreat
open Go Go.SL Go.RowKit Go.ChangeShapes Go.WideShapes Go.ChangeAt Go.Deep
set_option maxHeartbeats 1000000
theorem Tryz.own:ownKnob Tryz.prog.godebug=none:=by kernel_rfl
theorem Tryz.laidOut:laidOutB Tryz.prog=true:=by kernel_rfl
theorem zwc:Tryz.prog.cellsOf 3=1:=by kernel_rfl
theorem zwd:Tryz.prog.cellsOf 4=1:=by kernel_rfl
theorem zwe:Tryz.prog.cellsOf 9=1:=by kernel_rfl
theorem zwf:Opens Int Tryz.prog 3:=zkv Tryz.underlying3
set_option maxRecDepth 100000 in
theorem zML:Opens DCall Tryz.prog 77:=by
 intro H enc w base spare held fuel cs x h
 obtain ⟨hl,hf⟩:=zkx Tryz.underlying77 h
 have hl:cs.length=5:=hl.trans (by kernel_rfl)
 match cs,hl with
 | [c0,c1,c2,c3,c4],_ =>
  obtain ⟨a0,e0,o0⟩:=zlx Tryz.underlying3 hf 0 0 ⟨_,rfl,rfl,rfl⟩ zwc
  have e0:[c0]=[.int .i64 a0]:=e0
  obtain ⟨a1,e1,o1⟩:=zlx Tryz.underlying3 hf 1 1 ⟨_,rfl,rfl,rfl⟩ zwc
  have e1:[c1]=[.int .i64 a1]:=e1
  obtain ⟨a2,e2,o2⟩:=zlx Tryz.underlying3 hf 2 2 ⟨_,rfl,rfl,rfl⟩ zwc
  have e2:[c2]=[.int .i64 a2]:=e2
  obtain ⟨a3,e3,o3⟩:=zlx Tryz.underlying3 hf 3 3 ⟨_,rfl,rfl,rfl⟩ zwc
  have e3:[c3]=[.int .i64 a3]:=e3
  obtain ⟨a4,e4,o4⟩:=zlx Tryz.underlying3 hf 4 4 ⟨_,rfl,rfl,rfl⟩ zwc
  have e4:[c4]=[.int .i64 a4]:=e4
  have ee:[c0] ++ [c1] ++ [c2] ++ [c3] ++ [c4]=[.int .i64 a0] ++ [.int .i64 a1] ++ [.int .i64 a2] ++ [.int .i64 a3] ++ [.int .i64 a4]:=by rw [e0,e1,e2,e3,e4]
  exact ⟨⟨a0,a1,a2,a3,a4⟩,ee,o0,o1,o2,o3,o4⟩
set_option maxRecDepth 100000 in
theorem zwg:Opens DPassage Tryz.prog 212:=by
 intro H enc w base spare held fuel cs x h
 obtain ⟨hl,hf⟩:=zkx Tryz.underlying212 h
 have hl:cs.length=5:=hl.trans (by kernel_rfl)
 match cs,hl with
 | [c0,c1,c2,c3,c4],_ =>
  obtain ⟨a0,e0,o0⟩:=zlx Tryz.underlying3 hf 0 0 ⟨_,rfl,rfl,rfl⟩ zwc
  have e0:[c0]=[.int .i64 a0]:=e0
  obtain ⟨a1,e1,o1⟩:=zlx Tryz.underlying3 hf 1 1 ⟨_,rfl,rfl,rfl⟩ zwc
  have e1:[c1]=[.int .i64 a1]:=e1
  obtain ⟨a2,e2⟩:=zly Tryz.underlying4 hf 2 2 ⟨_,rfl,rfl,rfl⟩ zwd
  have e2:[c2]=[.bool a2]:=e2
  obtain ⟨a3,e3,o3⟩:=zlx Tryz.underlying3 hf 3 3 ⟨_,rfl,rfl,rfl⟩ zwc
  have e3:[c3]=[.int .i64 a3]:=e3
  obtain ⟨a4,e4,o4⟩:=zlx Tryz.underlying3 hf 4 4 ⟨_,rfl,rfl,rfl⟩ zwc
  have e4:[c4]=[.int .i64 a4]:=e4
  have ee:[c0] ++ [c1] ++ [c2] ++ [c3] ++ [c4]=[.int .i64 a0] ++ [.int .i64 a1] ++ [.bool a2] ++ [.int .i64 a3] ++ [.int .i64 a4]:=by rw [e0,e1,e2,e3,e4]
  exact ⟨⟨a0,a1,a2,a3,a4⟩,ee,o0,o1,o3,o4⟩
theorem zMM:Tryz.prog.cellsOf 82=1:=by kernel_rfl
theorem opens_PassageS:Opens (Sl DPassage) Tryz.prog 82:=zkw Tryz.underlying82 (by kernel_rfl) zwg
set_option maxRecDepth 100000 in
theorem zMN:Opens DOption Tryz.prog 84:=by
 intro H enc w base spare held fuel cs x h
 obtain ⟨hl,hf⟩:=zkx Tryz.underlying84 h
 have hl:cs.length=4:=hl.trans (by kernel_rfl)
 match cs,hl with
 | [c0,c1,c2,c3],_ =>
  obtain ⟨a0,e0,o0⟩:=zlx Tryz.underlying3 hf 0 0 ⟨_,rfl,rfl,rfl⟩ zwc
  have e0:[c0]=[.int .i64 a0]:=e0
  obtain ⟨a1,e1,o1⟩:=zlx Tryz.underlying3 hf 1 1 ⟨_,rfl,rfl,rfl⟩ zwc
  have e1:[c1]=[.int .i64 a1]:=e1
  obtain ⟨a2,e2,o2⟩:=zlx Tryz.underlying3 hf 2 2 ⟨_,rfl,rfl,rfl⟩ zwc
  have e2:[c2]=[.int .i64 a2]:=e2
  obtain ⟨a3,e3,o3⟩:=opens_PassageS.field hf 3 3 1 ⟨_,rfl,rfl,rfl⟩ zMM
  have e3:[c3]=Enc.enc a3:=e3
  have ee:[c0] ++ [c1] ++ [c2] ++ [c3]=[.int .i64 a0] ++ [.int .i64 a1] ++ [.int .i64 a2] ++ Enc.enc a3:=by rw [e0,e1,e2,e3]
  exact ⟨⟨a0,a1,a2,a3⟩,ee,o0,o1,o2,o3⟩
theorem zwi:Tryz.prog.cellsOf 35=1:=by kernel_rfl
theorem opens_IntS:Opens (Sl Int) Tryz.prog 35:=zkw Tryz.underlying35 (by kernel_rfl) zwf
theorem zMO:Tryz.prog.cellsOf 37=4:=by kernel_rfl
set_option maxRecDepth 100000 in
theorem opens_Crew:Opens DCrew Tryz.prog 37:=by
 intro H enc w base spare held fuel cs x h
 obtain ⟨hl,hf⟩:=zkx Tryz.underlying37 h
 have hl:cs.length=4:=hl.trans (by kernel_rfl)
 match cs,hl with
 | [c0,c1,c2,c3],_ =>
  obtain ⟨a0,e0,o0⟩:=zlx Tryz.underlying3 hf 0 0 ⟨_,rfl,rfl,rfl⟩ zwc
  have e0:[c0]=[.int .i64 a0]:=e0
  obtain ⟨a1,e1,o1⟩:=zlx Tryz.underlying3 hf 1 1 ⟨_,rfl,rfl,rfl⟩ zwc
  have e1:[c1]=[.int .i64 a1]:=e1
  obtain ⟨a2,e2,o2⟩:=zlx Tryz.underlying3 hf 2 2 ⟨_,rfl,rfl,rfl⟩ zwc
  have e2:[c2]=[.int .i64 a2]:=e2
  obtain ⟨a3,e3,o3⟩:=opens_IntS.field hf 3 3 1 ⟨_,rfl,rfl,rfl⟩ zwi
  have e3:[c3]=Enc.enc a3:=e3
  have ee:[c0] ++ [c1] ++ [c2] ++ [c3]=[.int .i64 a0] ++ [.int .i64 a1] ++ [.int .i64 a2] ++ Enc.enc a3:=by rw [e0,e1,e2,e3]
  exact ⟨⟨a0,a1,a2,a3⟩,ee,o0,o1,o2,o3⟩
set_option maxRecDepth 100000 in
theorem zMP:Opens DPart Tryz.prog 296:=by
 intro H enc w base spare held fuel cs x h
 obtain ⟨hl,hf⟩:=zkx Tryz.underlying296 h
 have hl:cs.length=3:=hl.trans (by kernel_rfl)
 match cs,hl with
 | [c0,c1,c2],_ =>
  obtain ⟨a0,e0,o0⟩:=zlx Tryz.underlying3 hf 0 0 ⟨_,rfl,rfl,rfl⟩ zwc
  have e0:[c0]=[.int .i64 a0]:=e0
  obtain ⟨a1,e1,o1⟩:=zlx Tryz.underlying3 hf 1 1 ⟨_,rfl,rfl,rfl⟩ zwc
  have e1:[c1]=[.int .i64 a1]:=e1
  obtain ⟨a2,e2,o2⟩:=zlx Tryz.underlying3 hf 2 2 ⟨_,rfl,rfl,rfl⟩ zwc
  have e2:[c2]=[.int .i64 a2]:=e2
  have ee:[c0] ++ [c1] ++ [c2]=[.int .i64 a0] ++ [.int .i64 a1] ++ [.int .i64 a2]:=by rw [e0,e1,e2]
  exact ⟨⟨a0,a1,a2⟩,ee,o0,o1,o2⟩
theorem zMQ:Tryz.prog.cellsOf 22=1:=by kernel_rfl
theorem opens_PartS:Opens (Sl DPart) Tryz.prog 22:=zkw Tryz.underlying22 (by kernel_rfl) zMP
theorem zMR:Tryz.prog.cellsOf 24=2:=by kernel_rfl
set_option maxRecDepth 100000 in
theorem opens_Tide:Opens DTide Tryz.prog 24:=by
 intro H enc w base spare held fuel cs x h
 obtain ⟨hl,hf⟩:=zkx Tryz.underlying24 h
 have hl:cs.length=2:=hl.trans (by kernel_rfl)
 match cs,hl with
 | [c0,c1],_ =>
  obtain ⟨a0,e0,o0⟩:=zlx Tryz.underlying3 hf 0 0 ⟨_,rfl,rfl,rfl⟩ zwc
  have e0:[c0]=[.int .i64 a0]:=e0
  obtain ⟨a1,e1,o1⟩:=opens_PartS.field hf 1 1 1 ⟨_,rfl,rfl,rfl⟩ zMQ
  have e1:[c1]=Enc.enc a1:=e1
  have ee:[c0] ++ [c1]=[.int .i64 a0] ++ Enc.enc a1:=by rw [e0,e1]
  exact ⟨⟨a0,a1⟩,ee,o0,o1⟩
set_option maxRecDepth 100000 in
theorem zMS:Opens DSurge Tryz.prog 251:=by
 intro H enc w base spare held fuel cs x h
 obtain ⟨hl,hf⟩:=zkx Tryz.underlying251 h
 have hl:cs.length=3:=hl.trans (by kernel_rfl)
 match cs,hl with
 | [c0,c1,c2],_ =>
  obtain ⟨a0,e0,o0⟩:=zlx Tryz.underlying3 hf 0 0 ⟨_,rfl,rfl,rfl⟩ zwc
  have e0:[c0]=[.int .i64 a0]:=e0
  obtain ⟨a1,e1,o1⟩:=zlx Tryz.underlying3 hf 1 1 ⟨_,rfl,rfl,rfl⟩ zwc
  have e1:[c1]=[.int .i64 a1]:=e1
  obtain ⟨a2,e2,o2⟩:=zlx Tryz.underlying3 hf 2 2 ⟨_,rfl,rfl,rfl⟩ zwc
  have e2:[c2]=[.int .i64 a2]:=e2
  have ee:[c0] ++ [c1] ++ [c2]=[.int .i64 a0] ++ [.int .i64 a1] ++ [.int .i64 a2]:=by rw [e0,e1,e2]
  exact ⟨⟨a0,a1,a2⟩,ee,o0,o1,o2⟩
theorem zMT:Tryz.prog.cellsOf 25=1:=by kernel_rfl
theorem opens_SurgeS:Opens (Sl DSurge) Tryz.prog 25:=zkw Tryz.underlying25 (by kernel_rfl) zMS
theorem zMU:Tryz.prog.cellsOf 27=3:=by kernel_rfl
set_option maxRecDepth 100000 in
theorem opens_Forecast:Opens DForecast Tryz.prog 27:=by
 intro H enc w base spare held fuel cs x h
 obtain ⟨hl,hf⟩:=zkx Tryz.underlying27 h
 have hl:cs.length=3:=hl.trans (by kernel_rfl)
 match cs,hl with
 | [c0,c1,c2],_ =>
  obtain ⟨a0,e0,o0⟩:=opens_Tide.field hf 0 0 2 ⟨_,rfl,rfl,rfl⟩ zMR
  have e0:[c0,c1]=Enc.enc a0:=e0
  obtain ⟨a1,e1,o1⟩:=opens_SurgeS.field hf 1 2 1 ⟨_,rfl,rfl,rfl⟩ zMT
  have e1:[c2]=Enc.enc a1:=e1
  have ee:[c0,c1] ++ [c2]=Enc.enc a0 ++ Enc.enc a1:=by rw [e0,e1]
  exact ⟨⟨a0,a1⟩,ee,o0,o1⟩
set_option maxRecDepth 100000 in
theorem zwk:Opens DPoint Tryz.prog 236:=by
 intro H enc w base spare held fuel cs x h
 obtain ⟨hl,hf⟩:=zkx Tryz.underlying236 h
 have hl:cs.length=2:=hl.trans (by kernel_rfl)
 match cs,hl with
 | [c0,c1],_ =>
  obtain ⟨a0,e0,o0⟩:=zlz Tryz.underlying9 hf 0 0 ⟨_,rfl,rfl,rfl⟩ zwe
  have e0:[c0]=[.string a0]:=e0
  obtain ⟨a1,e1⟩:=zly Tryz.underlying4 hf 1 1 ⟨_,rfl,rfl,rfl⟩ zwd
  have e1:[c1]=[.bool a1]:=e1
  have ee:[c0] ++ [c1]=[.string a0] ++ [.bool a1]:=by rw [e0,e1]
  exact ⟨⟨a0,a1⟩,ee,o0⟩
theorem zwl:Tryz.prog.cellsOf 28=1:=by kernel_rfl
theorem opens_PointS:Opens (Sl DPoint) Tryz.prog 28:=zkw Tryz.underlying28 (by kernel_rfl) zwk
set_option maxRecDepth 100000 in
theorem zwm:Opens DSegment Tryz.prog 254:=by
 intro H enc w base spare held fuel cs x h
 obtain ⟨hl,hf⟩:=zkx Tryz.underlying254 h
 have hl:cs.length=5:=hl.trans (by kernel_rfl)
 match cs,hl with
 | [c0,c1,c2,c3,c4],_ =>
  obtain ⟨a0,e0,o0⟩:=zlx Tryz.underlying3 hf 0 0 ⟨_,rfl,rfl,rfl⟩ zwc
  have e0:[c0]=[.int .i64 a0]:=e0
  obtain ⟨a1,e1,o1⟩:=zlx Tryz.underlying3 hf 1 1 ⟨_,rfl,rfl,rfl⟩ zwc
  have e1:[c1]=[.int .i64 a1]:=e1
  obtain ⟨a2,e2,o2⟩:=zlx Tryz.underlying3 hf 2 2 ⟨_,rfl,rfl,rfl⟩ zwc
  have e2:[c2]=[.int .i64 a2]:=e2
  obtain ⟨a3,e3,o3⟩:=zlx Tryz.underlying3 hf 3 3 ⟨_,rfl,rfl,rfl⟩ zwc
  have e3:[c3]=[.int .i64 a3]:=e3
  obtain ⟨a4,e4⟩:=zly Tryz.underlying4 hf 4 4 ⟨_,rfl,rfl,rfl⟩ zwd
  have e4:[c4]=[.bool a4]:=e4
  have ee:[c0] ++ [c1] ++ [c2] ++ [c3] ++ [c4]=[.int .i64 a0] ++ [.int .i64 a1] ++ [.int .i64 a2] ++ [.int .i64 a3] ++ [.bool a4]:=by rw [e0,e1,e2,e3,e4]
  exact ⟨⟨a0,a1,a2,a3,a4⟩,ee,o0,o1,o2,o3⟩
theorem zwn:Tryz.prog.cellsOf 29=1:=by kernel_rfl
theorem opens_SegmentS:Opens (Sl DSegment) Tryz.prog 29:=zkw Tryz.underlying29 (by kernel_rfl) zwm
theorem zMV:Tryz.prog.cellsOf 31=2:=by kernel_rfl
set_option maxRecDepth 100000 in
theorem opens_Chart:Opens DChart Tryz.prog 31:=by
 intro H enc w base spare held fuel cs x h
 obtain ⟨hl,hf⟩:=zkx Tryz.underlying31 h
 have hl:cs.length=2:=hl.trans (by kernel_rfl)
 match cs,hl with
 | [c0,c1],_ =>
  obtain ⟨a0,e0,o0⟩:=opens_PointS.field hf 0 0 1 ⟨_,rfl,rfl,rfl⟩ zwl
  have e0:[c0]=Enc.enc a0:=e0
  obtain ⟨a1,e1,o1⟩:=opens_SegmentS.field hf 1 1 1 ⟨_,rfl,rfl,rfl⟩ zwn
  have e1:[c1]=Enc.enc a1:=e1
  have ee:[c0] ++ [c1]=Enc.enc a0 ++ Enc.enc a1:=by rw [e0,e1]
  exact ⟨⟨a0,a1⟩,ee,o0,o1⟩
set_option maxRecDepth 100000 in
theorem zwp:Opens DShip Tryz.prog 180:=by
 intro H enc w base spare held fuel cs x h
 obtain ⟨hl,hf⟩:=zkx Tryz.underlying180 h
 have hl:cs.length=6:=hl.trans (by kernel_rfl)
 match cs,hl with
 | [c0,c1,c2,c3,c4,c5],_ =>
  obtain ⟨a0,e0,o0⟩:=zlz Tryz.underlying9 hf 0 0 ⟨_,rfl,rfl,rfl⟩ zwe
  have e0:[c0]=[.string a0]:=e0
  obtain ⟨a1,e1,o1⟩:=zlx Tryz.underlying3 hf 1 1 ⟨_,rfl,rfl,rfl⟩ zwc
  have e1:[c1]=[.int .i64 a1]:=e1
  obtain ⟨a2,e2,o2⟩:=zlx Tryz.underlying3 hf 2 2 ⟨_,rfl,rfl,rfl⟩ zwc
  have e2:[c2]=[.int .i64 a2]:=e2
  obtain ⟨a3,e3,o3⟩:=zlx Tryz.underlying3 hf 3 3 ⟨_,rfl,rfl,rfl⟩ zwc
  have e3:[c3]=[.int .i64 a3]:=e3
  obtain ⟨a4,e4,o4⟩:=zlx Tryz.underlying3 hf 4 4 ⟨_,rfl,rfl,rfl⟩ zwc
  have e4:[c4]=[.int .i64 a4]:=e4
  obtain ⟨a5,e5⟩:=zly Tryz.underlying4 hf 5 5 ⟨_,rfl,rfl,rfl⟩ zwd
  have e5:[c5]=[.bool a5]:=e5
  have ee:[c0] ++ [c1] ++ [c2] ++ [c3] ++ [c4] ++ [c5]=[.string a0] ++ [.int .i64 a1] ++ [.int .i64 a2] ++ [.int .i64 a3] ++ [.int .i64 a4] ++ [.bool a5]:=by rw [e0,e1,e2,e3,e4,e5]
  exact ⟨⟨a0,a1,a2,a3,a4,a5⟩,ee,o0,o1,o2,o3,o4⟩
theorem zMW:Tryz.prog.cellsOf 32=1:=by kernel_rfl
theorem opens_ShipS:Opens (Sl DShip) Tryz.prog 32:=zkw Tryz.underlying32 (by kernel_rfl) zwp
theorem zMX:Tryz.prog.cellsOf 34=2:=by kernel_rfl
set_option maxRecDepth 100000 in
theorem opens_Regime:Opens DRegime Tryz.prog 34:=by
 intro H enc w base spare held fuel cs x h
 obtain ⟨hl,hf⟩:=zkx Tryz.underlying34 h
 have hl:cs.length=2:=hl.trans (by kernel_rfl)
 match cs,hl with
 | [c0,c1],_ =>
  obtain ⟨a0,e0,o0⟩:=zlx Tryz.underlying3 hf 0 0 ⟨_,rfl,rfl,rfl⟩ zwc
  have e0:[c0]=[.int .i64 a0]:=e0
  obtain ⟨a1,e1⟩:=zly Tryz.underlying4 hf 1 1 ⟨_,rfl,rfl,rfl⟩ zwd
  have e1:[c1]=[.bool a1]:=e1
  have ee:[c0] ++ [c1]=[.int .i64 a0] ++ [.bool a1]:=by rw [e0,e1]
  exact ⟨⟨a0,a1⟩,ee,o0⟩
set_option maxRecDepth 100000 in
theorem zMY:Opens DHarbour Tryz.prog 39:=by
 intro H enc w base spare held fuel cs x h
 obtain ⟨hl,hf⟩:=zkx Tryz.underlying39 h
 have hl:cs.length=12:=hl.trans (by kernel_rfl)
 match cs,hl with
 | [c0,c1,c2,c3,c4,c5,c6,c7,c8,c9,c10,c11],_ =>
  obtain ⟨a0,e0,o0⟩:=opens_Forecast.field hf 0 0 3 ⟨_,rfl,rfl,rfl⟩ zMU
  have e0:[c0,c1,c2]=Enc.enc a0:=e0
  obtain ⟨a1,e1,o1⟩:=opens_Chart.field hf 1 3 2 ⟨_,rfl,rfl,rfl⟩ zMV
  have e1:[c3,c4]=Enc.enc a1:=e1
  obtain ⟨a2,e2,o2⟩:=opens_ShipS.field hf 2 5 1 ⟨_,rfl,rfl,rfl⟩ zMW
  have e2:[c5]=Enc.enc a2:=e2
  obtain ⟨a3,e3,o3⟩:=opens_Regime.field hf 3 6 2 ⟨_,rfl,rfl,rfl⟩ zMX
  have e3:[c6,c7]=Enc.enc a3:=e3
  obtain ⟨a4,e4,o4⟩:=opens_Crew.field hf 4 8 4 ⟨_,rfl,rfl,rfl⟩ zMO
  have e4:[c8,c9,c10,c11]=Enc.enc a4:=e4
  have ee:[c0,c1,c2] ++ [c3,c4] ++ [c5] ++ [c6,c7] ++ [c8,c9,c10,c11]=Enc.enc a0 ++ Enc.enc a1 ++ Enc.enc a2 ++ Enc.enc a3 ++ Enc.enc a4:=by rw [e0,e1,e2,e3,e4]
  exact ⟨⟨a0,a1,a2,a3,a4⟩,ee,o0,o1,o2,o3,o4⟩
end Go.Proofs.YtjiggadgmmjnhaaGreat
namespace Go.Proofs.YtjiggadgmmjnhaaGreat
open Go Go.SL
set_option maxHeartbeats 1000000
theorem zNf (n:Int):bstr [n]=⟨#[UInt8.ofNat n.toNat]⟩:=rfl
theorem zNg (a b:List UInt8):(⟨a.toArray⟩:ByteArray) ++ ⟨b.toArray⟩=⟨(a ++ b).toArray⟩:=by
 ext1
 simp [ByteArray.data_append]
theorem zNh:∀ (f n:Nat) (acc:List UInt8),zl0 f n acc=zl0 f n [] ++ acc
 | 0,_,acc=>rfl
 | f+1,n,acc=>by
  unfold zl0
  split
  ·rfl
  ·rw [zNh f _ (_ :: acc),zNh f _ [_]];simp
theorem zNi:∀ (f n:Nat),(zl0 f n []).length≤f
 | 0,_=>Nat.le_refl _
 | f+1,n=>by
  unfold zl0
  split
  ·exact Nat.zero_le _
  ·rw [zNh,List.length_append];have:=zNi f (n / 10);simp only [List.length_cons,List.length_nil];omega
theorem zNj {f:Nat} {acc:List UInt8}:zl0 f 0 acc=acc:=by cases f <;> rfl
theorem zNk (k:Int):(mkT k).size≤65:=by
 unfold mkT
 show (List.toArray _).size≤65
 rw [List.size_toArray,List.length_cons]
 split
 ·simp
 ·have:=zNi 64 k.toNat;omega
theorem zNl (k:Int) (h:Hp) (hk:k≤4611686018427387904):Ct Tryz.prog 148 [.int .i64 k] h fun v h'=>v=.string (mkT k)∧h'=h:=by
 refine Ct.forget ?_
 refine zdn (fun A W=>by simp) Tryz.func148 rfl rfl (by simp) fun W0=>?_
 repeat' first|refine zie rfl ?_|refine zc4 rfl ?_|refine zc7 ?_|refine zc8 ?_|refine zc5 ?_|refine zc6 ?_|(simp (maxSteps:=2000000) only [go_sem,yqa,yqb,yqc,yqd,yqe,yqf];try rfl)|refine zc3 ?_|(refine And.intro ?_ ?_;focus (intros;simp_all only [yqg,yqh,yqi,and_self,true_and,and_true];done))
 refine zc9 rfl (fun hc=>?_) (fun hc=>?_)
 ·repeat' first|refine zie rfl ?_|refine zc4 rfl ?_|refine zc7 ?_|refine zc8 ?_|refine zc5 ?_|refine zc6 ?_|(simp (maxSteps:=2000000) only [go_sem,yqa,yqb,yqc,yqd,yqe,yqf];try rfl)|refine zc3 ?_|(refine And.intro ?_ ?_;focus (intros;simp_all only [yqg,yqh,yqi,and_self,true_and,and_true];done))
  rw [mkT,if_pos (of_decide_eq_true hc)]
 have hc:=of_decide_eq_false hc
 repeat' first|refine zie rfl ?_|refine zc4 rfl ?_|refine zc7 ?_|refine zc8 ?_|refine zc5 ?_|refine zc6 ?_|(simp (maxSteps:=2000000) only [go_sem,yqa,yqb,yqc,yqd,yqe,yqf];try rfl)|refine zc3 ?_|(refine And.intro ?_ ?_;focus (intros;simp_all only [yqg,yqh,yqi,and_self,true_and,and_true];done))
 refine zma (ι:=Nat × Nat × List UInt8) (fun i=>⟨[(0,true,.c (.v (.int .i64 (i.2.1:Int)))),(3,true,.c (.v (.string ⟨i.2.2.toArray⟩)))],[],h,0⟩) (fun i=>zl0 i.1 i.2.1 i.2.2=zl0 64 k.toNat []∧i.2.1 < 10 ^ i.1∧i.1+i.2.2.length=64∧i.2.1≤4611686018427387904) (fun i=>i.1) (64,k.toNat,[]) ⟨rfl,by simp only;omega,rfl,by simp only;omega⟩ [] ?_ ?_
 ·simp (maxSteps:=2000000) only [go_sem,yqa,yqb,yqc,yqd,yqe,yqf]
  refine ⟨zjB ?_,rfl⟩
  omega
 rintro ⟨f,n,acc⟩ ⟨h1,h2,h3,h4⟩
 simp only at h1 h2 h3 h4
 repeat' first|refine zie rfl ?_|refine zc4 rfl ?_|refine zc7 ?_|refine zc8 ?_|refine zc5 ?_|refine zc6 ?_|(simp (maxSteps:=2000000) only [go_sem,yqa,yqb,yqc,yqd,yqe,yqf];try rfl)|refine zc3 ?_|(refine And.intro ?_ ?_;focus (intros;simp_all only [yqg,yqh,yqi,and_self,true_and,and_true];done))
 refine zc9 rfl (fun hd=>?_) (fun hd=>?_)
 ·have hn:0 < n:=by have:=of_decide_eq_true hd;omega
  obtain ⟨f,rfl⟩:∃ f',f=f'+1:=⟨f - 1,by cases f with|zero=>simp at h2;omega|succ f=>rfl⟩
  have hm:Int.tmod (n:Int) 10=((n % 10:Nat):Int):=by rw [Int.tmod_eq_emod_of_nonneg (by omega)];omega
  have hw1:IntKind.i64.wrap (48+((n % 10:Nat):Int))=((48+n % 10:Nat):Int):=by rw [zjz (by omega)];omega
  have hw2:IntKind.u8.wrap ((48+n % 10:Nat):Int)=((48+n % 10:Nat):Int):=by
   have:n % 10 < 10:=Nat.mod_lt _ (by decide)
   show (((48+n % 10:Nat):Int)) % 256=_
   omega
  have hq:Int.tdiv (n:Int) 10=((n / 10:Nat):Int):=by rw [Int.tdiv_eq_ediv_of_nonneg (by omega)];omega
  have hw3:IntKind.i64.wrap ((n / 10:Nat):Int)=((n / 10:Nat):Int):=zjz (by omega)
  refine zc5 ?_
  simp (maxSteps:=2000000) only [go_sem,yqa,yqb,yqc,yqd,yqe,yqf]
  refine zc8 ?_
  refine zsB [0,0,0,0,0,4] rfl ?_
  simp (maxSteps:=2000000) only [go_sem,yqa,yqb,yqc,yqd,yqe,yqf,hm,hw1,hw2]
  refine ⟨by decide,?_⟩
  refine zNe (ns:=[((48+n % 10:Nat):Int)]) rfl rfl Tryz.underlying270 Tryz.underlying5 Tryz.underlying9 ?_
  simp (maxSteps:=2000000) only [go_sem,yqa,yqb,yqc,yqd,yqe,yqf]
  have hsz:(bstr [((48+n % 10:Nat):Int)]).size=1:=rfl
  refine ⟨by rw [hsz,List.size_toArray];omega,?_⟩
  repeat' first|refine zie rfl ?_|refine zc4 rfl ?_|refine zc7 ?_|refine zc8 ?_|refine zc5 ?_|refine zc6 ?_|(simp (maxSteps:=2000000) only [go_sem,yqa,yqb,yqc,yqd,yqe,yqf,hq,hw3];try rfl)|refine zc3 ?_|(refine And.intro ?_ ?_;focus (intros;simp_all only [yqg,yqh,yqi,and_self,true_and,and_true];done))
  refine ⟨by decide,?_⟩
  repeat' first|refine zie rfl ?_|refine zc4 rfl ?_|refine zc7 ?_|refine zc8 ?_|refine zc5 ?_|refine zc6 ?_|(simp (maxSteps:=2000000) only [go_sem,yqa,yqb,yqc,yqd,yqe,yqf,hq,hw3];try rfl)|refine zc3 ?_|(refine And.intro ?_ ?_;focus (intros;simp_all only [yqg,yqh,yqi,and_self,true_and,and_true];done))
  refine ⟨(f,n / 10,UInt8.ofNat (48+n % 10) :: acc),[],⟨?_,?_,?_,?_⟩,by simp only;omega,?_⟩
  ·simp only
   rw [← h1]
   conv=>rhs;unfold zl0
   rw [if_neg (by omega)]
  ·simp only
   rw [Nat.pow_succ] at h2
   omega
  ·simp only [List.length_cons];omega
  ·simp only;omega
  simp (maxSteps:=2000000) only [go_sem,yqa,yqb,yqc,yqd,yqe,yqf]
  refine ⟨?_,rfl⟩
  rw [zNf,yqj]
  congr 5
 ·have hn:n=0:=by have:=of_decide_eq_false hd;omega
  subst hn
  rw [zNj] at h1
  repeat' first|refine zie rfl ?_|refine zc4 rfl ?_|refine zc7 ?_|refine zc8 ?_|refine zc5 ?_|refine zc6 ?_|(simp (maxSteps:=2000000) only [go_sem,yqa,yqb,yqc,yqd,yqe,yqf];try rfl)|refine zc3 ?_|(refine And.intro ?_ ?_;focus (intros;simp_all only [yqg,yqh,yqi,and_self,true_and,and_true];done))
  refine ⟨by rw [List.size_toArray];simp;omega,?_⟩
  repeat' first|refine zie rfl ?_|refine zc4 rfl ?_|refine zc7 ?_|refine zc8 ?_|refine zc5 ?_|refine zc6 ?_|(simp (maxSteps:=2000000) only [go_sem,yqa,yqb,yqc,yqd,yqe,yqf];try rfl)|refine zc3 ?_|(refine And.intro ?_ ?_;focus (intros;simp_all only [yqg,yqh,yqi,and_self,true_and,and_true];done))
  rw [mkT,if_neg hc,← h1]
  exact congrArg Value.string (zNg [109] acc)
end Go.Proofs.YtjiggadgmmjnhaaGreat
