/- What functions of the given program compute, as contracts. -/
import Derived.Test.YtdeflkhkfmjckaaGreatSGFnTopx4
import Derived.Test.YtdeflkhkfmjckaaGreatSGFnTopx5
import Derived.Test.YtdeflkhkfmjckaaGreatXGFnTop6
set_option linter.unusedVariables false
set_option linter.unusedSimpArgs false
set_option maxRecDepth 4000
open Nat renaming reduceAdd → jq, reduceMul → jj, reduceBEq → jy, reduceLeDiff → jv, reduceLT → jk, reduceEqDiff → jx
open Bool renaming or_eq_false_iff → jp, or_eq_true → jQ, and_eq_true → jJ
open Int renaming toNat_natCast → jW, natCast_nonneg → jY
open Go.Proofs.Tryz renaming prog → jV
namespace Go.Proofs.YtdeflkhkfmjckaaGreat
open Go Go.SL
set_option maxHeartbeats 1000000
def dH:DShip:=⟨ByteArray.empty,0,0,0,0,false⟩
theorem hget {l:List DShip} {i:Nat} (hi:i < l.length):l.getD i dH=l[i]:=by simp [List.getD_eq_getElem?_getD,hi]
def zvi (l:List DShip) (n:ByteArray):Int:=zuP (fun p=>decide (p.name=n)) l
def zvj (s:DShip):Bool:=zuN s.name && In s.length 10 400 && In s.draught 100 2000 && In s.line 0 3 && In s.tugs 0 4
def shOk (l:List DShip) (i:Nat):Bool:=zvj (l.getD i dH) && decide (zvi l (l.getD i dH).name=(i:Int))
def zvk (l:List DShip):Bool:=decide (l.length≤6) && decide (∀ i,i < l.length→shOk l i=true)
def zvl (r:DRegime):Bool:=In r.gap 0 60
def zvm (l:List Int):Bool:=decide (l.length=64) && l.all (fun n=>In n 0 240)
def zvn (w:zE8):Bool:=In w.tugs 0 12 && In w.pilots 0 12 && (In w.rest 0 2880 && zvm w.moves)
def zvo (x:zFc):Bool:=zuY x.forecast && zva x.chart && zvk x.fleet && zvl x.regime && zvn x.crew
theorem zvp (c:Sl DShip) (n:ByteArray) (h:Hp) (hp:c.Ok h):Ct jV 108 [c.val,.string n] h fun v h'=>v=.int .i64 (zvi c.l n)∧h'=h:=by
 have hl:=hp.max
 refine zdn (fun A W=>by simp) Tryz.func108 rfl rfl (by simp) fun W0=>?_
 refine Wk ?_
 refine zde (ι:=Nat) (fun k=>⟨[(1,true,.c (.v (.string n))),(7,true,.c (.v c.val)),(8,true,.c (.v (.int .i64 c.l.length))),(9,true,.c (.v (.int .i64 k)))],[],h,1⟩) (fun k=>k≤c.l.length∧∀ i (hi:i < c.l.length),i < k→(decide (c.l[i].name=n))=false) (fun k=>c.l.length - k) 0 ⟨Nat.zero_le _,fun i _ hi=>absurd hi (Nat.not_lt_zero _)⟩ ?_ ?_
 ·refine Evs ?_
  exact Gk
 intro k hk
 refine Wk ?_
 refine zc9 rfl (fun hd=>?_) (fun hd=>?_)
 ·have hlt:=zjH hd
  repeat' first|refine Wa ?_|(simp only [go_sem,jq,jj,jy,jv,jk,jx,zk0 hp hlt,hp.some hlt,hlt,jW];try rfl)|refine Wb ?_|fail
  refine zc9 rfl (fun hq=>?_) (fun hq=>?_)
  ·refine Wk ?_
   rw [zvi,zuQ hlt hq hk.2]
  ·refine Wk ?_
   refine ⟨k+1,⟨hlt,fun i hi hik=>?_⟩,by omega,zjB (zjA hlt (by omega))⟩
   rcases Nat.lt_succ_iff_lt_or_eq.1 hik with hik|rfl
   ·exact hk.2 i hi hik
   ·exact hq
 ·have hge:=zjI hd
  refine Wk ?_
  rw [zvi,zuR (fun i hi=>hk.2 i hi (by omega))]
theorem zvq (s:DShip) (h:Hp) (hs:Enc.ok h s):Ct jV 77 [s.v] h fun v h'=>v=.bool (zvj s)∧h'=h:=by
 refine zdn (fun A W=>by simp) Tryz.func77 rfl rfl (by simp) fun W0=>?_
 repeat' first|refine Wa ?_|refine zhF (fun _=>zuO _ _ hs.1) ?_|refine zhF (fun _=>zum _ _ _ _) ?_|refine zhF (fun _=>zuo _ _ _) ?_|(simp only [go_sem,jq,jj,jy,jv,jk,jx];try rfl)|refine Wb ?_|fail
 congr 1;rw [Bool.eq_iff_iff];simp only [zvj,In,jJ,jQ,Bool.not_eq_true',decide_eq_true_eq,decide_eq_false_iff_not,beq_iff_eq,and_assoc]
 constructor <;> intro hh <;> (refine ⟨hh.1,?_⟩;omega)
theorem zvr (c:Sl DShip) (h:Hp) (hp:c.Ok h):Ct jV 67 [c.val] h fun v h'=>v=.bool (zvk c.l)∧h'=h:=by
 have hl:=hp.max
 rw [zvk]
 refine zdn (fun A W=>by simp) Tryz.func67 rfl rfl (by simp) fun W0=>?_
 refine Wk ?_
 refine zc9 rfl (fun hc=>?_) (fun hc=>?_)
 ·refine Wk ?_
  rw [decide_eq_false (by have:=of_decide_eq_true hc;omega)];rfl
 rw [decide_eq_true (show c.l.length≤6 by have:=of_decide_eq_false hc;omega),Bool.true_and]
 refine Wk ?_
 refine zde (ι:=Nat) (fun k=>⟨[(0,true,.c (.v c.val)),(8,true,.c (.v c.val)),(9,true,.c (.v (.int .i64 c.l.length))),(10,true,.c (.v (.int .i64 k)))],[],h,0⟩) (fun k=>k≤c.l.length∧∀ i,i < k→shOk c.l i=true) (fun k=>c.l.length - k) 0 ⟨Nat.zero_le _,zvf⟩ ?_ ?_
 ·refine Evs ?_
  exact Gk
 intro k hk
 refine Wk ?_
 refine zc9 rfl (fun hd=>?_) (fun hd=>?_)
 ·have hlt:=zjH hd
  repeat' first|refine Wa ?_|refine zhF (fun _=>zvq _ _ (hp.el hlt)) ?_|refine zhF (fun _=>zvp c _ _ hp) ?_|(simp only [go_sem,jq,jj,jy,jv,jk,jx,zk0 hp hlt,hp.some hlt,hlt,jW];try rfl)|refine Wb ?_|fail
  refine zc9 rfl (fun hq=>?_) (fun hq=>?_)
  ·refine Wk ?_
   rw [zvc hlt ?_]
   rw [shOk,hget hlt]
   rcases (jQ _ _).mp hq with h1|h1
   ·rw [Bool.not_eq_true'] at h1;rw [h1];rfl
   ·rw [decide_eq_false (zjD h1),Bool.and_false]
  ·obtain ⟨h1,h2⟩:=Bool.or_eq_false_iff.1 hq
   rw [Bool.not_eq_false'] at h1
   refine Wk ?_
   exact ⟨k+1,⟨hlt,zvd hk.2 (by rw [shOk,hget hlt,h1,decide_eq_true (zjE h2)];rfl)⟩,by omega,zjB (zjA hlt (by omega))⟩
 ·have hge:=zjI hd
  refine Wk ?_
  rw [zve hge hk.2]
theorem zvs (s:DRegime) (h:Hp):Ct jV 52 [s.v] h fun v h'=>v=.bool (zvl s)∧h'=h:=by
 refine zdn (fun A W=>by simp) Tryz.func52 rfl rfl (by simp) fun W0=>?_
 repeat' first|refine Wa ?_|refine zhF (fun _=>zum _ _ _ _) ?_|(simp only [go_sem,jq,jj,jy,jv,jk,jx];try rfl)|refine Wb ?_|fail
theorem zvt {l:List Int} {k:Nat} (hk:k < l.length) (h:In l[k] 0 240=false):zvm l=false:=by rw [zvm,zuU (p:=fun n=>In n 0 240) hk h,Bool.and_false]
theorem zvu {l:List Int} {k:Nat} (h64:l.length=64) (hk:l.length≤k) (hp:(l.take k).all (fun n=>In n 0 240)=true):zvm l=true:=by
 rw [List.take_of_length_le hk] at hp
 rw [zvm,hp,decide_eq_true h64];rfl
theorem zvv (a:Sl Int) (h:Hp) (ha:a.Ok h):Ct jV 84 [a.val] h fun v h'=>v=.bool (zvm a.l)∧h'=h:=by
 have hl:=ha.max
 refine zdn (fun A W=>by simp) Tryz.func84 rfl rfl (by simp) fun W0=>?_
 refine Wk ?_
 refine zc9 rfl (fun hc=>?_) (fun hc=>?_)
 ·refine Wk ?_
  rw [zvm,decide_eq_false (by have:=zjD hc;omega)];rfl
 have h64:a.l.length=64:=by have:=zjE hc;omega
 refine Wk ?_
 refine zde (ι:=Nat) (fun k=>⟨[(8,true,.c (.v a.val)),(9,true,.c (.v (.int .i64 a.l.length))),(10,true,.c (.v (.int .i64 k)))],[],h,0⟩) (fun k=>k≤a.l.length∧(a.l.take k).all (fun n=>In n 0 240)=true) (fun k=>a.l.length - k) 0 ⟨Nat.zero_le _,rfl⟩ ?_ ?_
 ·refine Evs ?_
  exact Gk
 intro k hk
 refine Wk ?_
 refine zc9 rfl (fun hd=>?_) (fun hd=>?_)
 ·have hlt:=zjH hd
  repeat' first|refine Wa ?_|refine zhF (fun _=>zum _ _ _ _) ?_|(simp only [go_sem,jq,jj,jy,jv,jk,jx,zkv ha hlt,ha.some hlt,hlt,jW];try rfl)|refine Wb ?_|fail
  refine zc9 rfl (fun hq=>?_) (fun hq=>?_)
  ·rw [Bool.not_eq_true'] at hq
   refine Wk ?_
   rw [zvt hlt hq]
  ·rw [Bool.not_eq_false'] at hq
   refine Wk ?_
   exact ⟨k+1,⟨hlt,zuV hlt hk.2 hq⟩,by omega,zjB (zjA hlt (by omega))⟩
 ·have hge:=zjI hd
  refine Wk ?_
  rw [zvu h64 hge hk.2]
theorem zvw (w:DCrew):zvn (Con.con w)=(In w.tugs 0 12 && In w.pilots 0 12 && (In w.rest 0 2880 && zvm w.moves.l)):=by
 rw [zvn,show (Con.con w).moves=w.moves.l from con_ints];rfl
theorem zvx (w:DCrew) (h:Hp) (hw:Enc.ok h w):Ct jV 46 [w.v] h fun v h'=>v=.bool (zvn (Con.con w))∧h'=h:=by
 rw [zvw]
 refine zdn (fun A W=>by simp) Tryz.func46 rfl rfl (by simp) fun W0=>?_
 repeat' first|refine Wa ?_|refine zhF (fun _=>zum _ _ _ _) ?_|refine zhF (fun _=>zun _ _) ?_|refine zhF (fun _=>zvv _ _ hw.2.2.2) ?_|(simp only [go_sem,jq,jj,jy,jv,jk,jx];try rfl)|refine Wb ?_|fail
 congr 1;rw [Bool.eq_iff_iff];simp only [In,jJ,jQ,Bool.not_eq_true',decide_eq_true_eq,decide_eq_false_iff_not,beq_iff_eq,and_assoc]
theorem zvy (x:DHarbour):zvo (Con.con x)=(zuY (Con.con x.forecast) && zva (Con.con x.chart) && zvk x.fleet.l && zvl x.regime && zvn (Con.con x.crew)):=by
 rw [zvo,show (Con.con x).fleet=x.fleet.l from zu4 _];rfl
theorem zvz (x:DHarbour) (h:Hp) (hx:Enc.ok h x):Ct jV 32 [x.v] h fun v h'=>v=.bool (zvo (Con.con x))∧h'=h:=by
 obtain ⟨o1,o2,o3,o4,o5⟩:=hx
 rw [zvy]
 refine zdn (fun A W=>by simp) Tryz.func32 rfl rfl (by simp) fun W0=>?_
 repeat' first|refine Wa ?_|refine zhF (fun _=>zu0 x.forecast _ o1) ?_|refine zhF (fun _=>zvh x.chart _ o2) ?_|refine zhF (fun _=>zvr _ _ o3) ?_|refine zhF (fun _=>zvs x.regime _) ?_|refine zhF (fun _=>zvx x.crew _ o5) ?_|(simp only [go_sem,jq,jj,jy,jv,jk,jx];try rfl)|refine Wb ?_|fail
def zvA (x:zFc) (a:DCall):Bool:=decide (0≤a.ship∧a.ship < x.fleet.length∧0≤a.src∧a.src < x.chart.points.length∧0≤a.dst∧a.dst < x.chart.points.length∧a.src ≠ a.dst∧0≤a.ready∧a.ready≤2880∧a.ready≤a.due∧a.due≤2880)
def zvB (x:zFc) (a:DCall):Bool:=zvo x && zvA x a
theorem zvC (x:DHarbour) (a:DCall):zvA (Con.con x) a=decide (0≤a.ship∧a.ship < x.fleet.l.length∧0≤a.src∧a.src < x.chart.points.l.length∧0≤a.dst∧a.dst < x.chart.points.l.length∧a.src ≠ a.dst∧0≤a.ready∧a.ready≤2880∧a.ready≤a.due∧a.due≤2880):=by
 rw [zvA,show (Con.con x).fleet=x.fleet.l from zu4 _,show (Con.con x).chart.points=x.chart.points.l from zu2 _]
theorem zvD (x:DHarbour) (a:DCall) (h:Hp) (hx:Enc.ok h x):Ct jV 33 [x.v,a.v] h fun v h'=>v=.bool (zvA (Con.con x) a)∧h'=h:=by
 rw [zvC]
 refine zdn (fun A W=>by simp) Tryz.func33 rfl rfl (by simp) fun W0=>?_
 repeat' first|refine Wa ?_|refine zhF (fun _=>zuo _ _ _) ?_|refine zhF (fun _=>zun _ _) ?_|refine zhF (fun _=>zum _ _ _ _) ?_|(simp (maxSteps:=2000000) only [go_sem,jq,jj,jy,jv,jk,jx];try rfl)|refine Wb ?_|fail
 congr 1
 rw [Bool.eq_iff_iff]
 simp only [jJ,decide_eq_true_eq,Bool.not_eq_true',beq_eq_false_iff_ne,bne_iff_ne,ne_eq,and_assoc]
 skip
theorem zvE (x:DHarbour) (a:DCall) (h:Hp) (hx:Enc.ok h x) (ha:Enc.ok h a):Ct jV 70 [x.v,a.v] h fun v h'=>v=.bool (zvB (Con.con x) (Con.con a))∧h'=h:=by
 rw [zvB,show (Con.con a:DCall)=a from rfl]
 refine zdn (fun A W=>by simp) Tryz.func70 rfl rfl (by simp) fun W0=>?_
 repeat' first|refine Wa ?_|refine zhF (fun _=>zvz x _ hx) ?_|refine zhF (fun _=>zvD x a _ hx) ?_|(simp (maxSteps:=2000000) only [go_sem,jq,jj,jy,jv,jk,jx];try rfl)|refine Wb ?_|fail
def dC:DCall:=⟨0,0,0,0,0⟩
theorem cget {l:List DCall} {i:Nat} (hi:i < l.length):l.getD i dC=l[i]:=by simp [List.getD_eq_getElem?_getD,hi]
def zJI (l:List DCall) (i:Nat):Bool:=decide (∀ j,j < i→(l.getD j dC).ship ≠ (l.getD i dC).ship)
def clOk (x:zFc) (l:List DCall) (i:Nat):Bool:=zvA x (l.getD i dC) && zJI l i
def zJJ (x:zFc) (l:List DCall):Bool:=zvo x && decide (l.length≤6) && decide (∀ i,i < l.length→clOk x l i=true)
theorem zJK (s:Sl DCall):Con.con s=s.l:=List.map_id _
theorem zJL (x:DHarbour) (a:Sl DCall) (h:Hp) (hx:Enc.ok h x) (ha:Enc.ok h a):Ct jV 7 [x.v,a.val] h fun v h'=>v=.bool (zJJ (Con.con x) (Con.con a))∧h'=h:=by
 have ha:a.Ok h:=ha
 have hl:=ha.max
 rw [zJJ,zJK]
 refine zdn (fun A W=>by simp) Tryz.func7 rfl rfl (by simp) fun W0=>?_
 repeat' first|refine Wa ?_|refine zhF (fun _=>zvz x _ hx) ?_|(simp only [go_sem,jq,jj,jy,jv,jk,jx];try rfl)|refine Wb ?_|fail
 refine zc9 rfl (fun hc=>?_) (fun hc=>?_)
 ·refine Wk ?_
  congr 1
  rcases (jQ _ _).mp hc with h1|h1
  ·rw [Bool.not_eq_true'] at h1;rw [h1];rfl
  ·rw [decide_eq_false (p:=a.l.length≤6) (by have:=of_decide_eq_true h1;omega),Bool.and_false];rfl
 obtain ⟨hH,h6⟩:=Bool.or_eq_false_iff.1 hc
 rw [Bool.not_eq_false'] at hH
 rw [hH,decide_eq_true (show a.l.length≤6 by have:=of_decide_eq_false h6;omega),Bool.and_self,Bool.true_and]
 refine Wk ?_
 refine zde (ι:=Nat) (fun k=>⟨[(1,true,.c (.v a.val)),(2,true,.c (.p 0 0)),(17,true,.c (.v a.val)),(18,true,.c (.v (.int .i64 a.l.length))),(19,true,.c (.v (.int .i64 k)))],[(0,.box 40 [.v (.int .i64 x.forecast.tide.mean),.v x.forecast.tide.parts.val,.v x.forecast.surges.val,.v x.chart.points.val,.v x.chart.segments.val,.v x.fleet.val,.v (.int .i64 x.regime.gap),.v (.bool x.regime.noMeet),.v (.int .i64 x.crew.tugs),.v (.int .i64 x.crew.pilots),.v (.int .i64 x.crew.rest),.v x.crew.moves.val])],h,1⟩) (fun k=>k≤a.l.length∧∀ i,i < k→clOk (Con.con x) a.l i=true) (fun k=>a.l.length - k) 0 ⟨Nat.zero_le _,zvf ⟩ ?_ ?_
 ·refine Evs ?_
  exact Gk
 intro k hk
 refine Wk ?_
 refine zc9 rfl (fun hd=>?_) (fun hd=>?_)
 ·have hlt:=zjH hd
  have hge:=cget hlt
  repeat' first|refine Wa ?_|refine zhF (fun _=>zvD x _ _ hx) ?_|(simp only [go_sem,jq,jj,jy,jv,jk,jx,zE7 ha hlt,ha.some hlt,hlt,jW];try rfl)|refine Wb ?_|fail
  refine zc9 rfl (fun hq=>?_) (fun hq=>?_)
  ·rw [Bool.not_eq_true'] at hq
   skip
   refine Wk ?_
   rw [zvc  hlt (by rw [clOk,hge,hq,Bool.false_and])]
  ·rw [Bool.not_eq_false'] at hq
   skip
   have hgo:=Sl.to_ok ha k
   have hlt0:=Sl.to_len hk.1
   have hcap:=ha.1
   refine Wk ?_
   refine ⟨by omega,?_⟩
   simp only [Int.toNat_zero,Nat.sub_zero,Nat.zero_mul,zmA,zmB,ite_self]
   rw [zmC hk.1]
   refine Wk ?_
   refine zde (ι:=Nat) (fun j=>⟨[(1,true,.c (.v a.val)),(2,true,.c (.p 0 0)),(6,true,.c (.p 1 0)),(17,true,.c (.v a.val)),(18,true,.c (.v (.int .i64 a.l.length))),(19,true,.c (.v (.int .i64 k))),(30,true,.c (.v (a.to k).val)),(31,true,.c (.v (.int .i64 k))),(32,true,.c (.v (.int .i64 j)))],[(0,.box 40 [.v (.int .i64 x.forecast.tide.mean),.v x.forecast.tide.parts.val,.v x.forecast.surges.val,.v x.chart.points.val,.v x.chart.segments.val,.v x.fleet.val,.v (.int .i64 x.regime.gap),.v (.bool x.regime.noMeet),.v (.int .i64 x.crew.tugs),.v (.int .i64 x.crew.pilots),.v (.int .i64 x.crew.rest),.v x.crew.moves.val]),(1,.box 89 [.v (.int .i64 a.l[k].ship),.v (.int .i64 a.l[k].src),.v (.int .i64 a.l[k].dst),.v (.int .i64 a.l[k].ready),.v (.int .i64 a.l[k].due)])],h,2⟩) (fun j=>j≤k∧∀ i,i < j→(a.l.getD i dC).ship ≠ a.l[k].ship) (fun j=>k - j) 0 ⟨Nat.zero_le _,fun i hi=>absurd hi (Nat.not_lt_zero _)⟩ ?_ ?_
   ·refine Evs ?_
    exact Gk
   intro j hj
   refine Wk ?_
   refine zc9 rfl (fun hq2=>?_) (fun hq2=>?_)
   ·have hltj:=zjH hq2
    have hltj':j < (a.to k).l.length:=by omega
    have hltj2:j < a.l.length:=by omega
    have hje:=Sl.to_get hltj' hltj2
    repeat' first|refine Wa ?_|(simp only [go_sem,jq,jj,jy,jv,jk,jx,zE7 hgo hltj',hgo.some hltj',hltj',hltj,jW,hje];try rfl)|refine Wb ?_|fail
    refine zc9 rfl (fun hq3=>?_) (fun hq3=>?_)
    ·have hq3:=eq_of_beq hq3
     refine Wk ?_
     rw [zvc  hlt ?_]
     rw [clOk,hge,hq,Bool.true_and,zJI]
     refine decide_eq_false fun hh=>hh j hltj ?_
     rw [cget hltj2,hge];omega
    ·have hq3:=beq_eq_false_iff_ne.1 hq3
     refine Wk ?_
     refine ⟨j+1,⟨hltj,fun i hi=>?_⟩,by omega,zjB (zjA hltj (by omega))⟩
     rcases Nat.lt_succ_iff_lt_or_eq.1 hi with hi|rfl
     ·exact hj.2 i hi
     ·rw [cget hltj2];omega
   ·have hgej:=zjI hq2
    refine Wk ?_
    refine ⟨k+1,⟨hlt,zvd  hk.2 ?_⟩,by omega,zjB (zjA hlt (by omega))⟩
    rw [clOk,hge,hq,Bool.true_and,zJI]
    refine decide_eq_true fun i hi=>?_
    rw [hge];exact hj.2 i (by omega)
 ·have hge:=zjI hd
  refine Wk ?_
  rw [zve  hge hk.2]
def zvF (c:zFb) (p:DPassage):Int × Int:=if p.toward then ((c.segments.getD p.seg.toNat dG).a,(c.segments.getD p.seg.toNat dG).b) else ((c.segments.getD p.seg.toNat dG).b,(c.segments.getD p.seg.toNat dG).a)
def zvG (s:DShip) (g:DSegment):Int:=if s.slow then IntKind.i64.wrap (2 * g.minutes) else g.minutes
def zvH (c:zFb) (l:List DShip) (p:DPassage):Bool:=decide (0≤p.ship∧p.ship < l.length∧0≤p.seg∧p.seg < c.segments.length∧0≤p.start∧p.start≤2880∧p.fin≤2880) && decide (p.fin=IntKind.i64.wrap (p.start+zvG (l.getD p.ship.toNat dH) (c.segments.getD p.seg.toNat dG)))
def zvI (c:zFb) (l:List DShip) (p:DPassage):Bool:=zva c && zvk l && zvH c l p
theorem zvJ (c:DChart):(Con.con c).segments=c.segments.l:=zu3 _
theorem zvK (c:DChart) (p:DPassage) (hs:p.seg.toNat < c.segments.l.length):zvF (Con.con c) p=if p.toward then (c.segments.l[p.seg.toNat].a,c.segments.l[p.seg.toNat].b) else (c.segments.l[p.seg.toNat].b,c.segments.l[p.seg.toNat].a):=by
 rw [zvF,zvJ,gget hs]
theorem zvL (c:DChart) (p:DPassage) (h:Hp) (hc:Enc.ok h c) (h0:0≤p.seg) (h1:p.seg < c.segments.l.length):Ct jV 123 [p.v,c.v] h fun v h'=>v=.tuple #[.int .i64 (zvF (Con.con c) p).1,.int .i64 (zvF (Con.con c) p).2]∧h'=h:=by
 have hg:=hc.2
 have hs:p.seg.toNat < c.segments.l.length:=by omega
 rw [zvK c p hs]
 refine zdn (fun A W=>by simp) Tryz.func123 rfl rfl (by simp) fun W0=>?_
 repeat' first|refine Wa ?_|(simp (maxSteps:=2000000) only [go_sem,jq,jj,jy,jv,jk,jx,zkU hg hs,hg.some hs,hs,h0,h1];try rfl)|refine Wb ?_|fail
 refine zc9 rfl (fun hq=>?_) (fun hq=>?_)
 ·refine Wk ?_
  refine zi8 rfl (by kernel_rfl) ?_
  refine Evs ?_
  refine Wk ?_
  rw [hq];rfl
 ·refine Wk ?_
  refine zi8 rfl (by kernel_rfl) ?_
  refine Evs ?_
  refine Wk ?_
  rw [hq];rfl
theorem zvM (s:DShip) (g:DSegment) (h:Hp):Ct jV 116 [s.v,g.v] h fun v h'=>v=.int .i64 (zvG s g)∧h'=h:=by
 refine zdn (fun A W=>by simp) Tryz.func116 rfl rfl (by simp) fun W0=>?_
 refine Wk ?_
 refine zc9 rfl (fun hq=>?_) (fun hq=>?_)
 ·refine Wk ?_
  rw [zvG,if_pos hq]
 ·refine Wk ?_
  rw [zvG,if_neg (by rw [hq];exact Bool.false_ne_true)]
theorem zvN (c:DChart) (l:List DShip) (p:DPassage):zvH (Con.con c) l p=(decide (0≤p.ship∧p.ship < l.length∧0≤p.seg∧p.seg < c.segments.l.length∧0≤p.start∧p.start≤2880∧p.fin≤2880) && decide (p.fin=IntKind.i64.wrap (p.start+zvG (l.getD p.ship.toNat dH) (c.segments.l.getD p.seg.toNat dG)))):=by
 rw [zvH,zvJ]
theorem zvO (c:DChart) (a:Sl DShip) (p:DPassage) (h:Hp) (hc:Enc.ok h c) (ha:a.Ok h):Ct jV 74 [c.v,a.val,p.v] h fun v h'=>v=.bool (zvH (Con.con c) a.l p)∧h'=h:=by
 have hg:=hc.2
 rw [zvN]
 refine zdn (fun A W=>by simp) Tryz.func74 rfl rfl (by simp) fun W0=>?_
 repeat' first|refine Wa ?_|refine zhF (fun _=>zuo _ _ _) ?_|refine zhF (fun _=>zun _ _) ?_|(simp (maxSteps:=2000000) only [go_sem,jq,jj,jy,jv,jk,jx];try rfl)|refine Wb ?_|fail
 refine zc9 rfl (fun hq=>?_) (fun hq=>?_)
 ·refine Wk ?_
  simp only [jQ,Bool.not_eq_true',Bool.and_eq_false_iff,decide_eq_false_iff_not,decide_eq_true_eq] at hq
  rw [decide_eq_false (by omega),Bool.false_and]
 ·simp only [jp,Bool.not_eq_false',jJ,decide_eq_true_eq,decide_eq_false_iff_not] at hq
  have h1:0≤p.ship∧p.ship < (a.l.length:Int)∧0≤p.seg∧p.seg < (c.segments.l.length:Int)∧0≤p.start∧p.start≤2880∧p.fin≤2880:=by omega
  have hs':p.seg.toNat < c.segments.l.length:=by omega
  have hp':p.ship.toNat < a.l.length:=by omega
  rw [decide_eq_true h1,Bool.true_and,gget hs',hget hp']
  refine Wk ?_
  refine ziV rfl ?_
  refine zi3 [0,1,2,3,4,5,6,7,8,9,10,11,12,13,14] rfl (by kernel_rfl) ?_
  simp (maxSteps:=2000000) only [go_sem,jq,jj,jy,jv,jk,jx,zkU hg hs',hg.some hs',hs',h1.2.2.1,h1.2.2.2.1,zk0 ha hp',ha.some hp',hp',h1.1,h1.2.1]
  refine ziT [15] (by kernel_rfl) (by kernel_rfl) ?_
  simp (maxSteps:=2000000) only [go_sem,jq,jj,jy,jv,jk,jx,zkU hg hs',hg.some hs',hs',h1.2.2.1,h1.2.2.2.1,zk0 ha hp',ha.some hp',hp',h1.1,h1.2.1]
  refine zhF (fun _=>zvM _ _ _) ?_
  simp (maxSteps:=2000000) only [go_sem,jq,jj,jy,jv,jk,jx,zkU hg hs',hg.some hs',hs',h1.2.2.1,h1.2.2.2.1,zk0 ha hp',ha.some hp',hp',h1.1,h1.2.1]
  refine zi3 [16,17,18] rfl (by kernel_rfl) ?_
  refine Evs ?_
  refine ziU (by kernel_rfl) ?_
  exact Wk0
theorem zvP (c:DChart) (a:Sl DShip) (p:DPassage) (h:Hp) (hc:Enc.ok h c) (ha:a.Ok h):Ct jV 38 [c.v,a.val,p.v] h fun v h'=>v=.bool (zvI (Con.con c) a.l p)∧h'=h:=by
 rw [zvI]
 refine zdn (fun A W=>by simp) Tryz.func38 rfl rfl (by simp) fun W0=>?_
 repeat' first|refine Wa ?_|refine zhF (fun _=>zvh c _ hc) ?_|refine zhF (fun _=>zvr _ _ ha) ?_|refine zhF (fun _=>zvO c a p _ hc ha) ?_|(simp (maxSteps:=2000000) only [go_sem,jq,jj,jy,jv,jk,jx];try rfl)|refine Wb ?_|fail
def Ov (p q:DPassage):Bool:=decide (max p.start q.start < min p.fin q.fin)
def zJM (a b g:Int):Bool:=decide (max a b - min a b < g)
def zJN (c:zFb) (r:DRegime) (p q:DPassage):Int :=
 if ¬ (p.seg=q.seg∧0≤p.seg∧p.seg < c.segments.length) then 0
 else if p.ship=q.ship then (if Ov p q=true then 1 else 0)
 else if p.toward ≠ q.toward then (if (Ov p q && (r.noMeet || !(c.segments.getD p.seg.toNat dG).meet))=true then 2 else 0)
 else if (zJM p.start q.start r.gap || zJM p.fin q.fin r.gap)=true then 3
 else if (p.start < q.start∧q.fin < p.fin)∨(q.start < p.start∧p.fin < q.fin) then 4 else 0
def zJO (c:zFb) (r:DRegime) (a b:List DPassage):Bool:=a.any fun p=>b.any fun q=>decide (zJN c r p q ≠ 0)
theorem zJP {α:Type} {f:α→Bool} {l:List α} {k:Nat} (hk:k < l.length):(l.take (k+1)).any f=((l.take k).any f || f l[k]):=by
 rw [List.take_succ_eq_append_getElem hk,List.any_append,List.any_cons,List.any_nil,Bool.or_false]
theorem zJQ {α:Type} {f:α→Bool} {l:List α} {k:Nat} (hk:k < l.length) (h:f l[k]=true):l.any f=true:=List.any_eq_true.2 ⟨_,List.getElem_mem hk,h⟩
theorem zJR {a b g:Int} (ha:I64 a) (hb:I64 b) (hg:0≤g∧g≤60):decide (IntKind.u64.wrap (IntKind.u64.wrap (max a b) - IntKind.u64.wrap (min a b)) < IntKind.u64.wrap g)=zJM a b g:=by
 unfold I64 at ha hb
 rw [zJM,decide_eq_decide]
 show ((max a b % (2 ^ 64:Int) - min a b % (2 ^ 64:Int)) % (2 ^ 64:Int) < g % (2 ^ 64:Int)) ↔ _
 omega
theorem zJS (p q:DPassage) (h:Hp):Ct jV 127 [p.v,q.v] h fun v h'=>v=.bool (Ov p q)∧h'=h:=by
 refine zdn (fun A W=>by simp) Tryz.func127 rfl rfl (by simp) fun W0=>?_
 exact Wk0
 try rfl
theorem zJT (a b g:Int) (h:Hp) (ha:I64 a) (hb:I64 b) (hg:0≤g∧g≤60):Ct jV 128 [.int .i64 a,.int .i64 b,.int .i64 g] h fun v h'=>v=.bool (zJM a b g)∧h'=h:=by
 rw [← zJR ha hb hg]
 refine zdn (fun A W=>by simp) Tryz.func128 rfl rfl (by simp) fun W0=>?_
 exact Wk0
theorem cf_t {a b c d:Int} (h:((decide (a < b) && decide (d < c)) || (decide (b < a) && decide (c < d)))=true):(a < b∧d < c)∨(b < a∧c < d):=by simpa using h
theorem cf_f {a b c d:Int} (h:((decide (a < b) && decide (d < c)) || (decide (b < a) && decide (c < d)))=false):¬ ((a < b∧d < c)∨(b < a∧c < d)):=by
 intro H
 have:((decide (a < b) && decide (d < c)) || (decide (b < a) && decide (c < d)))=true:=by simpa using H
 rw [this] at h;cases h
theorem zJU {a b n:Int} (h:(a != b || !(decide (0≤a) && decide (a < n)))=true):¬ (a=b∧0≤a∧a < n):=by
 intro ⟨h1,h2,h3⟩
 rw [decide_eq_true h2,decide_eq_true h3,h1] at h
 simp at h
theorem zJV {a b n:Int} (h:(a != b || !(decide (0≤a) && decide (a < n)))=false):a=b∧0≤a∧a < n:=by
 simpa using h
theorem zJW (x:DChart) (r:DRegime) (p q:DPassage) (h:Hp) (hx:Enc.ok h x) (hr:zvl r=true) (hp:Enc.ok h p) (hq:Enc.ok h q):Ct jV 90 [x.v,r.v,p.v,q.v] h fun v h'=>v=.int .i64 (zJN (Con.con x) r p q)∧h'=h:=by
 have hl:=hx.2.max
 have hcs:(Con.con x).segments=x.segments.l:=zvJ x
 have hg:0≤r.gap∧r.gap≤60:=by rw [zvl,In,jJ,decide_eq_true_eq,decide_eq_true_eq] at hr;exact hr
 refine zdn (fun A W=>by simp) Tryz.func90 rfl rfl (by simp) fun W0=>?_
 repeat' first|refine Wa ?_|refine zhF (fun _=>zuo _ _ _) ?_|refine zhF (fun _=>zJS p q _) ?_|(simp only [go_sem,jq,jj,jy,jv,jk,jx];try rfl)|refine Wb ?_|fail
 refine zc9 rfl (fun hc=>?_) (fun hc=>?_)
 ·have hc:=zJU hc
  refine Wk ?_
  rw [zJN,hcs,if_pos hc]
 obtain ⟨hs,hs0,hs1⟩:=zJV hc
 have hF:zJN (Con.con x) r p q=if p.ship=q.ship then (if Ov p q=true then 1 else 0)
  else if p.toward ≠ q.toward then (if (Ov p q && (r.noMeet || !(x.segments.l.getD p.seg.toNat dG).meet))=true then 2 else 0)
  else if (zJM p.start q.start r.gap || zJM p.fin q.fin r.gap)=true then 3
  else if (p.start < q.start∧q.fin < p.fin)∨(q.start < p.start∧p.fin < q.fin) then 4 else 0:=by
  rw [zJN,hcs,if_neg (fun H=>H ⟨hs,hs0,hs1⟩)]
 have hsi:p.seg.toNat < x.segments.l.length:=by omega
 have hge:x.segments.l.getD p.seg.toNat dG=x.segments.l[p.seg.toNat]:=by rw [List.getD_eq_getElem?_getD,List.getElem?_eq_getElem hsi];rfl
 rw [hge] at hF
 by_cases hsh:p.ship=q.ship
 ·rw [if_pos hsh] at hF
  have hb:(p.ship == q.ship)=true:=beq_iff_eq.2 hsh
  cases ho:Ov p q with
  | true =>
   rw [ho] at hF
   repeat' first|refine Wa ?_|refine zhF (fun _=>zJS p q _) ?_|(simp only [go_sem,jq,jj,jy,jv,jk,jx,hb,ho,Bool.and_self];try rfl)|refine Wb ?_|fail
   refine zc9 rfl (fun hd=>?_) (fun hd=>?_)
   case refine_2=>cases hd
   refine Wk ?_
   rw [hF];rfl
  | false =>
   rw [ho] at hF
   repeat' first|refine Wa ?_|refine zhF (fun _=>zJS p q _) ?_|(simp only [go_sem,jq,jj,jy,jv,jk,jx,hb,ho,Bool.and_false];try rfl)|refine Wb ?_|fail
   refine zc9 rfl (fun hd=>?_) (fun hd=>?_)
   ·cases hd
   repeat' first|refine Wa ?_|(simp only [go_sem,jq,jj,jy,jv,jk,jx,hb];try rfl)|refine Wb ?_|fail
   refine zc9 rfl (fun hd=>?_) (fun hd=>?_)
   case refine_2=>cases hd
   refine Wk ?_
   rw [hF];rfl
 rw [if_neg hsh] at hF
 have hb:(p.ship == q.ship)=false:=beq_eq_false_iff_ne.2 hsh
 repeat' first|refine Wa ?_|refine zhF (fun _=>zJS p q _) ?_|(simp only [go_sem,jq,jj,jy,jv,jk,jx,hb,Bool.false_and];try rfl)|refine Wb ?_|fail
 have htq:(p.toward ≠ q.toward) ↔ (p.toward == q.toward)=false:=by cases p.toward <;> cases q.toward <;> simp
 refine zc9 rfl (fun hd=>?_) (fun hd=>?_)
 ·cases hd
 repeat' first|refine Wa ?_|(simp only [go_sem,jq,jj,jy,jv,jk,jx,hb];try rfl)|refine Wb ?_|fail
 refine zc9 rfl (fun hd=>?_) (fun hd=>?_)
 ·cases hd
 cases htw:(p.toward == q.toward) with
 | false =>
  rw [if_pos (htq.2 htw)] at hF
  cases ho:Ov p q with
  | false =>
   rw [ho] at hF
   repeat' first|refine Wa ?_|refine zhF (fun _=>zJS p q _) ?_|(simp only [go_sem,jq,jj,jy,jv,jk,jx,htw,Bool.false_eq_true,Bool.true_eq_false,false_implies,implies_true,true_and,and_true,and_self,Bool.not_false,Bool.not_true,ho,Bool.and_false,Bool.false_and];try rfl)|refine Wb ?_|fail
   refine zc9 rfl (fun hd=>?_) (fun hd=>?_)
   ·cases hd
   repeat' first|refine Wa ?_|(simp only [go_sem,jq,jj,jy,jv,jk,jx,htw,Bool.not_false,Bool.not_true];try rfl)|refine Wb ?_|fail
   refine zc9 rfl (fun hd=>?_) (fun hd=>?_)
   case refine_2=>cases hd
   refine Wk ?_
   rw [hF];rfl
  | true =>
   rw [ho] at hF
   cases hn:r.noMeet with
   | true =>
    rw [hn] at hF
    repeat' first|refine Wa ?_|refine zhF (fun _=>zJS p q _) ?_|(simp only [go_sem,jq,jj,jy,jv,jk,jx,htw,Bool.false_eq_true,Bool.true_eq_false,false_implies,implies_true,true_and,and_true,and_self,Bool.not_false,Bool.not_true,ho,hn,Bool.and_true,Bool.true_and,Bool.true_or,Bool.and_self];try rfl)|refine Wb ?_|fail
    refine zc9 rfl (fun hd=>?_) (fun hd=>?_)
    case refine_2=>cases hd
    refine Wk ?_
    rw [hF];rfl
   | false =>
    rw [hn] at hF
    cases hm:x.segments.l[p.seg.toNat].meet with
    | true =>
     rw [hm] at hF
     repeat' first|refine Wa ?_|refine zhF (fun _=>zJS p q _) ?_|(simp only [go_sem,jq,jj,jy,jv,jk,jx,htw,Bool.false_eq_true,Bool.true_eq_false,false_implies,implies_true,true_and,and_true,and_self,Bool.not_false,Bool.not_true,ho,hn,hm,Bool.and_true,Bool.true_and,Bool.true_or,Bool.and_self,zlS hx.2 hsi,zkU hx.2 hsi,hx.2.some hsi,hsi,hs0,hs1,jW];try rfl)|refine Wb ?_|fail
     refine zc9 rfl (fun hd=>?_) (fun hd=>?_)
     ·cases hd
     repeat' first|refine Wa ?_|(simp only [go_sem,jq,jj,jy,jv,jk,jx,htw,Bool.not_false,Bool.not_true];try rfl)|refine Wb ?_|fail
     refine zc9 rfl (fun hd=>?_) (fun hd=>?_)
     case refine_2=>cases hd
     refine Wk ?_
     rw [hF];rfl
    | false =>
     rw [hm] at hF
     repeat' first|refine Wa ?_|refine zhF (fun _=>zJS p q _) ?_|(simp only [go_sem,jq,jj,jy,jv,jk,jx,htw,Bool.false_eq_true,Bool.true_eq_false,false_implies,implies_true,true_and,and_true,and_self,Bool.not_false,Bool.not_true,ho,hn,hm,Bool.and_true,Bool.true_and,Bool.true_or,Bool.and_self,zlS hx.2 hsi,zkU hx.2 hsi,hx.2.some hsi,hsi,hs0,hs1,jW];try rfl)|refine Wb ?_|fail
     refine zc9 rfl (fun hd=>?_) (fun hd=>?_)
     case refine_2=>cases hd
     refine Wk ?_
     rw [hF];rfl
 | true =>
  rw [if_neg (fun H=>by rw [htq.1 H] at htw;cases htw)] at hF
  repeat' first|refine Wa ?_|refine zhF (fun _=>zJS p q _) ?_|(simp only [go_sem,jq,jj,jy,jv,jk,jx,htw,Bool.false_eq_true,Bool.true_eq_false,false_implies,implies_true,true_and,and_true,and_self,Bool.not_false,Bool.not_true,Bool.and_false,Bool.false_and];try rfl)|refine Wb ?_|fail
  refine zc9 rfl (fun hd=>?_) (fun hd=>?_)
  ·cases hd
  repeat' first|refine Wa ?_|(simp only [go_sem,jq,jj,jy,jv,jk,jx,htw,Bool.not_false,Bool.not_true];try rfl)|refine Wb ?_|fail
  refine zc9 rfl (fun hd=>?_) (fun hd=>?_)
  ·cases hd
  repeat' first|refine Wa ?_|refine zhF (fun _=>zJT _ _ _ _ hp.2.2.1 hq.2.2.1 hg) ?_|refine zhF (fun _=>zJT _ _ _ _ hp.2.2.2 hq.2.2.2 hg) ?_|(simp only [go_sem,jq,jj,jy,jv,jk,jx];try rfl)|refine Wb ?_|fail
  refine zc9 rfl (fun hd=>?_) (fun hd=>?_)
  ·rw [if_pos hd] at hF
   refine Wk ?_
   rw [hF]
  rw [if_neg (by rw [hd];exact Bool.false_ne_true)] at hF
  refine Wk ?_
  refine zc9 rfl (fun hd=>?_) (fun hd=>?_)
  ·refine Wk ?_
   rw [hF,if_pos (cf_t hd)]
  ·refine Wk ?_
   rw [hF,if_neg (cf_f hd)]
def zvQ (l:List DSurge) (m:Int):Nat→Nat
 | 0=>0
 | k+1=>if (l.getD k dS).src≤m then k else zvQ l m k
def zvR (l:List DSurge) (m:Int):Nat:=zvQ l m l.length
theorem zvS {l:List DSurge} {m:Int}:∀ {k:Nat},0 < k→zvQ l m k < k
 | k+1,_=>by
  unfold zvQ
  split
  ·omega
  ·rcases Nat.eq_zero_or_pos k with rfl|h
   ·exact Nat.zero_lt_one
   ·have:=zvS (l:=l) (m:=m) h;omega
theorem zvT {l:List DSurge} {m:Int} (h:0 < l.length):zvR l m < l.length:=zvS h
theorem zvU {l:List DSurge} {m:Int} {k:Nat} (hk:k < l.length) (h:l[k].src≤m):zvQ l m (k+1)=k:=by rw [zvQ,sget hk,if_pos h]
theorem zvV {l:List DSurge} {m:Int} {k:Nat} (hk:k < l.length) (h:¬ l[k].src≤m):zvQ l m (k+1)=zvQ l m k:=by rw [zvQ,sget hk,if_neg h]
theorem zvW {f:zFa} (h:zuY f=true):0 < f.surges.length:=by
 simp only [zuY,In,jJ,decide_eq_true_eq] at h
 omega
theorem zvX (f:DForecast):(Con.con f).surges=f.surges.l:=zuZ _
def zvY (n p:Int):Int :=
 if zuG p=true then
  (if n % p < Int.tdiv p 2 then IntKind.i64.wrap (Int.tdiv (IntKind.i64.wrap (IntKind.i64.wrap (40000 * (n % p)) * IntKind.i64.wrap (Int.tdiv p 2 - n % p))) (IntKind.i64.wrap (Int.tdiv p 2 * Int.tdiv p 2)))
   else IntKind.i64.wrap (0 - IntKind.i64.wrap (Int.tdiv (IntKind.i64.wrap (IntKind.i64.wrap (40000 * IntKind.i64.wrap (n % p - Int.tdiv p 2)) * IntKind.i64.wrap (Int.tdiv p 2 - IntKind.i64.wrap (n % p - Int.tdiv p 2)))) (IntKind.i64.wrap (Int.tdiv p 2 * Int.tdiv p 2)))))
 else 0
def zvZ (m:Int) (acc:Int) (p:DPart):Int:=IntKind.i64.wrap (acc+IntKind.i64.wrap (Int.tdiv (IntKind.i64.wrap (p.amp * zvY (IntKind.i64.wrap (m+p.phase)) p.period)) 10000))
def zv0 (t:zE9) (m:Int):Int:=t.parts.foldl (zvZ m) t.mean
def zv1 (f:zFa) (m:Int):Int:=IntKind.i64.wrap (zv0 f.tide m+(f.surges.getD (zvR f.surges m) dS).low)
theorem zv2 (f:DForecast) (m:Int) (h:Hp) (hf:Enc.ok h f):Ct jV 82 [f.v,.int .i64 m] h fun v h'=>v=.int .i64 (zvR f.surges.l m:Nat)∧h'=h:=by
 have hp:=hf.2
 have hl:=hp.max
 refine zdn (fun A W=>by simp) Tryz.func82 rfl rfl (by simp) fun W0=>?_
 refine Wk ?_
 refine zde (ι:=Nat) (fun k=>⟨[(1,true,.c (.v (.int .i64 m))),(5,true,.c (.v (.int .i64 (zvQ f.surges.l m k:Nat)))),(9,true,.c (.v f.surges.val)),(10,true,.c (.v (.int .i64 f.surges.l.length))),(11,true,.c (.v (.int .i64 k)))],[],h,0⟩) (fun k=>k≤f.surges.l.length) (fun k=>f.surges.l.length - k) 0 (Nat.zero_le _) ?_ ?_
 ·refine Evs ?_
  exact Gk
 intro k hk
 refine Wk ?_
 refine zc9 rfl (fun hdk=>?_) (fun hdk=>?_)
 ·have hlt:=zjH hdk
  repeat' first|refine Wa ?_|(simp only [go_sem,jq,jj,jy,jv,jk,jx,zkM hp hlt,hp.some hlt,hlt,jW];try rfl)|refine Wb ?_|fail
  refine zc9 rfl (fun hq=>?_) (fun hq=>?_)
  ·refine Wk ?_
   refine ⟨k+1,hlt,by omega,zjB ?_,zjB (zjA hlt (by omega))⟩
   rw [zvU hlt (of_decide_eq_true hq)]
  ·refine Wk ?_
   refine ⟨k+1,hlt,by omega,zjB ?_,zjB (zjA hlt (by omega))⟩
   rw [zvV hlt (of_decide_eq_false hq)]
 ·have hge:=zjI hdk
  refine Wk ?_
  rw [zvR,Nat.le_antisymm hge hk]
theorem zv3 {p:Int} (h:zuG p=true):4≤p∧p≤2880∧Int.tmod p 4=0:=by
 simp only [zuG,In,jJ,decide_eq_true_eq,beq_iff_eq] at h
 exact ⟨h.1.1,h.1.2,h.2⟩
theorem zv4 {n p:Int} (h:4≤p∧p≤2880):IntKind.i64.wrap (Int.tmod n p+p)=Int.tmod n p+p∧Int.tmod (Int.tmod n p+p) p=n % p∧(if Int.tmod n p < 0 then Int.tmod n p+p else Int.tmod n p)=n % p∧-p < Int.tmod n p∧Int.tmod n p < p:=by
 have e1:-p < Int.tmod n p∧Int.tmod n p < p:=by
  have:=Int.tmod_lt_of_pos n (show 0 < p by omega)
  have h2:=Int.lt_tmod_of_pos n (show 0 < p by omega)
  omega
 have e2:Int.tmod n p=n % p∨Int.tmod n p=n % p - p:=by
  rw [Int.tmod_eq_emod]
  split
  ·left;omega
  ·right;omega
 have e3:=Int.emod_nonneg n (show p ≠ 0 by omega)
 have e4:=Int.emod_lt_of_pos n (show 0 < p by omega)
 refine ⟨zjz (by omega),?_,?_,e1⟩
 ·rw [Int.tmod_eq_emod_of_nonneg (by omega),Int.add_emod_right]
  rcases e2 with e2|e2
  ·rw [e2,Int.emod_emod_of_dvd _ (Int.dvd_refl p)]
  ·rw [e2,Int.sub_emod_right];exact Int.emod_emod_of_dvd _ (Int.dvd_refl p)
 ·split <;> omega
theorem zv5 (n p:Int) (h:Hp):Ct jV 122 [.int .i64 n,.int .i64 p] h fun v h'=>v=.int .i64 (zvY n p)∧h'=h:=by
 refine zdn (fun A W=>by simp) Tryz.func122 rfl rfl (by simp) fun W0=>?_
 repeat' first|refine Wa ?_|refine zhF (fun _=>zuH _ _) ?_|(simp only [go_sem,jq,jj,jy,jv,jk,jx];try rfl)|refine Wb ?_|fail
 refine zc9 rfl (fun hc=>?_) (fun hc=>?_)
 ·rw [Bool.not_eq_true'] at hc
  refine Wk ?_
  rw [zvY,if_neg (by rw [hc];exact Bool.false_ne_true)]
 rw [Bool.not_eq_false'] at hc
 obtain ⟨h1,h2,h3⟩:=zv3 hc
 obtain ⟨w1,w2,w3,w4⟩:=zv4 (n:=n) ⟨h1,h2⟩
 have hp0:¬ p=0:=by omega
 have hh:0 < Int.tdiv p 2∧Int.tdiv p 2≤1440:=by rw [Int.tdiv_eq_ediv_of_nonneg (by omega)];omega
 have hw:IntKind.i64.wrap (Int.tdiv p 2)=Int.tdiv p 2:=zjz (by omega)
 have hm:=Int.mul_le_mul hh.2 hh.2 (by omega) (by decide)
 have hm0:=Int.mul_pos hh.1 hh.1
 have hww:IntKind.i64.wrap (Int.tdiv p 2 * Int.tdiv p 2)=Int.tdiv p 2 * Int.tdiv p 2:=zjz (by omega)
 have hq0:¬ Int.tdiv p 2 * Int.tdiv p 2=0:=by omega
 have h20:¬ (2:Int)=0:=by decide
 repeat' first|refine Wa ?_|(simp only [go_sem,jq,jj,jy,jv,jk,jx,w1,w2,hp0,hw,h20,not_false_eq_true,implies_true,true_and];try rfl)|refine Wb ?_|fail
 refine zc9 rfl (fun hq=>?_) (fun hq=>?_)
 ·repeat' first|refine Wa ?_|(simp only [go_sem,jq,jj,jy,jv,jk,jx,hw,hww,hq0,not_false_eq_true,implies_true,true_and];try rfl)|refine Wb ?_|fail
  rw [zvY,if_pos hc,if_neg (by have:=of_decide_eq_true hq;omega),hww]
 ·repeat' first|refine Wa ?_|(simp only [go_sem,jq,jj,jy,jv,jk,jx,hw,hww,hq0,not_false_eq_true,implies_true,true_and];try rfl)|refine Wb ?_|fail
  rw [zvY,if_pos hc,if_pos (by have:=of_decide_eq_false hq;omega),hww]
theorem zv6 {α β:Type} {f:β→α→β} {b:β} {l:List α} {k:Nat} (hk:k < l.length):(l.take (k+1)).foldl f b=f ((l.take k).foldl f b) l[k]:=by rw [List.take_succ_eq_append_getElem hk,List.foldl_append];rfl
theorem zv7 (t:DTide) (m:Int) (h:Hp) (ht:Enc.ok h t):Ct jV 81 [t.v,.int .i64 m] h fun v h'=>v=.int .i64 (zv0 (Con.con t) m)∧h'=h:=by
 have hp:=ht.2
 have hl:=hp.max
 rw [zv0,show (Con.con t).mean=t.mean from rfl,show (Con.con t).parts=t.parts.l from zuT _]
 refine zdn (fun A W=>by simp) Tryz.func81 rfl rfl (by simp) fun W0=>?_
 refine Wk ?_
 refine zde (ι:=Nat) (fun k=>⟨[(1,true,.c (.v (.int .i64 m))),(5,true,.c (.v (.int .i64 ((t.parts.l.take k).foldl (zvZ m) t.mean)))),(11,true,.c (.v t.parts.val)),(12,true,.c (.v (.int .i64 t.parts.l.length))),(13,true,.c (.v (.int .i64 k)))],[],h,0⟩) (fun k=>k≤t.parts.l.length) (fun k=>t.parts.l.length - k) 0 (Nat.zero_le _) ?_ ?_
 ·refine Evs ?_
  exact Gk
 intro k hk
 refine Wk ?_
 refine zc9 rfl (fun hdk=>?_) (fun hdk=>?_)
 ·have hlt:=zjH hdk
  have hp':=hp.el hlt
  repeat' first|refine Wa ?_|(simp only [go_sem,jq,jj,jy,jv,jk,jx,zkH hp hlt,hp.some hlt,hlt,jW];try rfl)|refine Wb ?_|fail
  have h10:¬ (10000:Int)=0:=by decide
  refine znv rfl ?_
  refine U_t [0,1,3,4,7,2,5,8,6] rfl ?_
  simp only [go_sem,jq,jj,jy,jv,jk,jx,h10,not_false_eq_true,implies_true]
  refine U_1 9 0 [2,1] rfl rfl ?_
  simp only [go_sem,jq,jj,jy,jv,jk,jx,h10,not_false_eq_true,implies_true]
  refine zhF (fun _=>zv5 _ _ _) ?_
  simp only [go_sem,jq,jj,jy,jv,jk,jx,h10,not_false_eq_true,implies_true]
  refine U_t [10,11,12,13] rfl ?_
  simp only [go_sem,jq,jj,jy,jv,jk,jx,h10,not_false_eq_true,implies_true]
  refine U_d ?_
  refine Wk ?_
  refine ⟨k+1,hlt,by omega,zjB ?_,zjB (zjA hlt (by omega))⟩
  rw [zv6 hlt]
  rfl
 ·have hge:=zjI hdk
  refine Wk ?_
  rw [List.take_of_length_le hge]
theorem zv8 (f:DForecast) (m:Int) (h:Hp) (hf:Enc.ok h f) (h0:0 < f.surges.l.length):Ct jV 44 [f.v,.int .i64 m] h fun v h'=>v=.int .i64 (zv1 (Con.con f) m)∧h'=h:=by
 have hp:=hf.2
 have hs:=zvT (m:=m) h0
 have hsi:((zvR f.surges.l m:Nat):Int) < f.surges.l.length:=by omega
 rw [zv1,zvX,sget hs]
 refine zdn (fun A W=>by simp) Tryz.func44 rfl rfl (by simp) fun W0=>?_
 refine Wk ?_
 refine znv rfl ?_
 refine U_t [0,2,4,6,7,1,5] rfl ?_
 simp only [go_sem,jq,jj,jy,jv,jk,jx,zlQ hp hs,hp.some hs,hs,hsi,jW,jY]
 refine U_1 3 0 [5,6,4] rfl rfl ?_
 simp only [go_sem,jq,jj,jy,jv,jk,jx,zlQ hp hs,hp.some hs,hs,hsi,jW,jY]
 refine zhF (fun _=>zv7 _ _ _ hf.1) ?_
 simp only [go_sem,jq,jj,jy,jv,jk,jx,zlQ hp hs,hp.some hs,hs,hsi,jW,jY]
 refine U_1 8 0 [5,4] rfl rfl ?_
 simp only [go_sem,jq,jj,jy,jv,jk,jx,zlQ hp hs,hp.some hs,hs,hsi,jW,jY]
 refine zhF (fun _=>zv2 f _ _ hf) ?_
 simp only [go_sem,jq,jj,jy,jv,jk,jx,zlQ hp hs,hp.some hs,hs,hsi,jW,jY]
 refine U_t [9,10,11,12,13] rfl ?_
 simp only [go_sem,jq,jj,jy,jv,jk,jx,zlQ hp hs,hp.some hs,hs,hsi,jW,jY]
 refine U_d ?_
 exact Wk0
theorem i64w (n:Int):I64 (IntKind.i64.wrap n):=by rw [w64];unfold I64;omega
def dW:DWindow:=⟨0,0⟩
theorem wget {l:List DWindow} {i:Nat} (hi:i < l.length):l.getD i dW=l[i]:=by simp [List.getD_eq_getElem?_getD,hi]
def zv9 (l:List DWindow) (i:Nat):Bool:=decide ((0≤(l.getD i dW).src∧(l.getD i dW).src≤(l.getD i dW).dst∧(l.getD i dW).dst≤2880)∧(0 < i→IntKind.i64.wrap ((l.getD (i - 1) dW).dst+1) < (l.getD i dW).src))
def zwa (l:List DWindow):Bool:=decide (∀ i,i < l.length→zv9 l i=true)
def zwb (l:List DWindow) (m:Int):Bool:=l.any fun w=>In m w.src w.dst
def zwc (l:List DWindow) (m:Int):Int:=if zwa l=true then (match l.find? (fun w=>decide (m≤w.dst)) with|some w=>max w.src m|none=>-1) else -1
def shr (n:Int) (w:DWindow):Bool:=decide (n≤IntKind.i64.wrap (w.dst - w.src))
def shw (n:Int) (w:DWindow):DWindow:=⟨w.src,IntKind.i64.wrap (w.dst - n)⟩
def zwd (l:List DWindow) (n:Int):List DWindow:=if zwa l=true∧0≤n∧n≤2880 then (l.filter (shr n)).map (shw n) else []
theorem zwe (a:Sl DWindow) (h:Hp) (ha:a.Ok h):Ct jV 137 [a.val] h fun v h'=>v=.bool (zwa a.l)∧h'=h:=by
 have hl:=ha.max
 rw [zwa]
 refine zdn (fun A W=>by simp) Tryz.func137 rfl rfl (by simp) fun W0=>?_
 refine Wk ?_
 refine zde (ι:=Nat) (fun k=>⟨[(0,true,.c (.v a.val)),(5,true,.c (.v a.val)),(6,true,.c (.v (.int .i64 a.l.length))),(7,true,.c (.v (.int .i64 k)))],[],h,0⟩) (fun k=>k≤a.l.length∧∀ i,i < k→zv9 a.l i=true) (fun k=>a.l.length - k) 0 ⟨Nat.zero_le _,zvf⟩ ?_ ?_
 ·refine Evs ?_
  exact Gk
 intro k hk
 refine Wk ?_
 refine zc9 rfl (fun hdk=>?_) (fun hdk=>?_)
 ·have hlt:=zjH hdk
  rcases Nat.eq_zero_or_pos k with h0|h0
  ·have hf:(0 < (k:Int))=False:=eq_false (by omega)
   repeat' first|refine Wa ?_|(simp (maxSteps:=2000000) only [go_sem,jq,jj,jy,jv,jk,jx,zlc ha hlt,ha.some hlt,hlt,jW];try rfl)|refine Wb ?_|fail
   refine znv rfl ?_
   refine U_t [0,1,2,3,4,6,5,7,8,9,10,11,12,13,14,15,16,17,18,19,20,26,21,27,22,23,24,25,28,29,30] rfl ?_
   simp (maxSteps:=2000000) only [go_sem,jq,jj,jy,jv,jk,jx,hf,decide_false,Bool.and_false,Bool.false_and,Bool.or_false,Bool.false_eq_true,false_implies,implies_true,true_and,and_true,reduceCtorEq]
   refine U_d ?_
   refine Wk ?_
   refine zc9 rfl (fun hq=>?_) (fun hq=>?_)
   ·refine Wk ?_
    rw [zvc hlt (decide_eq_false (by rw [wget hlt];intro e;simp only [jQ,Bool.not_eq_true',Bool.and_eq_false_iff,decide_eq_true_eq,decide_eq_false_iff_not] at hq;omega))]
   ·refine Wk ?_
    refine ⟨k+1,⟨hlt,zvd hk.2 (decide_eq_true (by rw [wget hlt];simp only [jp,Bool.not_eq_false',jJ,decide_eq_true_eq,decide_eq_false_iff_not] at hq;exact ⟨by omega,fun e=>by omega⟩))⟩,by omega,zjB (zjA hlt (by omega))⟩
  ·have hp:k - 1 < a.l.length:=by omega
   have hw:IntKind.i64.wrap ((k:Int) - 1)=((k - 1:Nat):Int):=by rw [zjz (by omega)];omega
   have hf:(0 < (k:Int))=True:=eq_true (by omega)
   repeat' first|refine Wa ?_|(simp (maxSteps:=2000000) only [go_sem,jq,jj,jy,jv,jk,jx,zlc ha hlt,ha.some hlt,hlt,jW];try rfl)|refine Wb ?_|fail
   refine znv rfl ?_
   refine U_t [0,1,2,3,4,6,5,7,8,9,10,11,12,13,14,15,16,17,18,19,20,26,21,27,22,23,24,25,28,29,30] rfl ?_
   simp (maxSteps:=2000000) only [go_sem,jq,jj,jy,jv,jk,jx,hf,decide_true,and_true,imp_self,true_implies,Bool.and_true,Bool.true_and,hw,zlc ha hp,zlU ha hp,ha.some hp,hp,jW]
   refine U_d ?_
   refine Wk ?_
   refine zc9 rfl (fun hq=>?_) (fun hq=>?_)
   ·refine Wk ?_
    rw [zvc hlt (decide_eq_false (by rw [wget hlt,wget hp];intro e;have e2:=e.2 h0;simp only [jQ,Bool.not_eq_true',Bool.and_eq_false_iff,decide_eq_true_eq,decide_eq_false_iff_not] at hq;omega))]
   ·refine Wk ?_
    refine ⟨k+1,⟨hlt,zvd hk.2 (decide_eq_true (by rw [wget hlt,wget hp];simp only [jp,Bool.not_eq_false',jJ,decide_eq_true_eq,decide_eq_false_iff_not] at hq;exact ⟨by omega,fun e=>by omega⟩))⟩,by omega,zjB (zjA hlt (by omega))⟩
 ·have hge:=zjI hdk
  refine Wk ?_
  rw [zve hge hk.2]
theorem zwf {α:Type} {p:α→Bool} {l:List α} {k:Nat} (hk:k < l.length) (h:p l[k]=true):l.any p=true:=List.any_eq_true.2 ⟨l[k],List.getElem_mem hk,h⟩
theorem zwg {α:Type} {p:α→Bool} {l:List α} (h:∀ i (hi:i < l.length),p l[i]=false):l.any p=false:=by
 rw [List.any_eq_false]
 intro x hx
 obtain ⟨i,hi,rfl⟩:=List.getElem_of_mem hx
 rw [h i hi];exact Bool.false_ne_true
theorem zwh {α:Type} {p:α→Bool} {l:List α} {k:Nat} (hk:k < l.length) (h:∀ i (hi:i < l.length),i < k→p l[i]=false) (hq:p l[k]=false):∀ i (hi:i < l.length),i < k+1→p l[i]=false:=fun i hi hik=>by
 rcases Nat.lt_succ_iff_lt_or_eq.1 hik with h1|rfl
 ·exact h i hi h1
 ·exact hq
theorem zwi {α:Type} {p:α→Bool} {l:List α} {k:Nat} (hk:k < l.length) (h:∀ i (hi:i < l.length),i < k→p l[i]=false) (hq:p l[k]=true):l.find? p=some l[k]:=by
 rw [List.find?_eq_some_iff_getElem]
 exact ⟨hq,k,hk,rfl,fun j hj=>by rw [h j (by omega) hj];rfl⟩
theorem zwj {α:Type} {p:α→Bool} {l:List α} (h:∀ i (hi:i < l.length),p l[i]=false):l.find? p=none:=by
 rw [List.find?_eq_none]
 intro x hx
 obtain ⟨i,hi,rfl⟩:=List.getElem_of_mem hx
 rw [h i hi];exact Bool.false_ne_true
theorem zwk (a:Sl DWindow) (m:Int) (h:Hp) (ha:a.Ok h):Ct jV 75 [a.val,.int .i64 m] h fun v h'=>v=.bool (zwb a.l m)∧h'=h:=by
 have hl:=ha.max
 refine zdn (fun A W=>by simp) Tryz.func75 rfl rfl (by simp) fun W0=>?_
 refine Wk ?_
 refine zde (ι:=Nat) (fun k=>⟨[(1,true,.c (.v (.int .i64 m))),(7,true,.c (.v a.val)),(8,true,.c (.v (.int .i64 a.l.length))),(9,true,.c (.v (.int .i64 k)))],[],h,0⟩) (fun k=>k≤a.l.length∧∀ i (hi:i < a.l.length),i < k→(fun w:DWindow=>In m w.src w.dst) a.l[i]=false) (fun k=>a.l.length - k) 0 ⟨Nat.zero_le _,fun i _ h=>absurd h (Nat.not_lt_zero _)⟩ ?_ ?_
 ·refine Evs ?_
  exact Gk
 intro k hk
 refine Wk ?_
 refine zc9 rfl (fun hdk=>?_) (fun hdk=>?_)
 ·have hlt:=zjH hdk
  repeat' first|refine Wa ?_|refine zhF (fun _=>zum _ _ _ _) ?_|(simp (maxSteps:=2000000) only [go_sem,jq,jj,jy,jv,jk,jx,zlc ha hlt,ha.some hlt,hlt,jW];try rfl)|refine Wb ?_|fail
  refine zc9 rfl (fun hq=>?_) (fun hq=>?_)
  ·refine Wk ?_
   rw [zwb,zwf hlt hq]
  ·refine Wk ?_
   refine ⟨k+1,⟨hlt,zwh (p:=fun w:DWindow=>In m w.src w.dst) hlt hk.2 hq⟩,by omega,zjB (zjA hlt (by omega))⟩
 ·have hge:=zjI hdk
  refine Wk ?_
  rw [zwb,zwg (fun i hi=>hk.2 i hi (by omega))]
theorem zwl (a:Sl DWindow) (m:Int) (h:Hp) (ha:a.Ok h):Ct jV 136 [a.val,.int .i64 m] h fun v h'=>v=.int .i64 (zwc a.l m)∧h'=h:=by
 have hl:=ha.max
 rw [zwc]
 refine zdn (fun A W=>by simp) Tryz.func136 rfl rfl (by simp) fun W0=>?_
 repeat' first|refine Wa ?_|refine zhF (fun _=>zwe _ _ ha) ?_|(simp (maxSteps:=2000000) only [go_sem,jq,jj,jy,jv,jk,jx];try rfl)|refine Wb ?_|fail
 refine zc9 rfl (fun hc=>?_) (fun hc=>?_)
 ·rw [Bool.not_eq_true'] at hc
  refine Wk ?_
  rw [hc];rfl
 rw [Bool.not_eq_false'] at hc
 rw [if_pos hc]
 refine Wk ?_
 refine zde (ι:=Nat) (fun k=>⟨[(1,true,.c (.v (.int .i64 m))),(10,true,.c (.v a.val)),(11,true,.c (.v (.int .i64 a.l.length))),(12,true,.c (.v (.int .i64 k)))],[],h,0⟩) (fun k=>k≤a.l.length∧∀ i (hi:i < a.l.length),i < k→(fun w:DWindow=>decide (m≤w.dst)) a.l[i]=false) (fun k=>a.l.length - k) 0 ⟨Nat.zero_le _,fun i _ h=>absurd h (Nat.not_lt_zero _)⟩ ?_ ?_
 ·refine Evs ?_
  exact Gk
 intro k hk
 refine Wk ?_
 refine zc9 rfl (fun hdk=>?_) (fun hdk=>?_)
 ·have hlt:=zjH hdk
  repeat' first|refine Wa ?_|(simp (maxSteps:=2000000) only [go_sem,jq,jj,jy,jv,jk,jx,zlc ha hlt,ha.some hlt,hlt,jW];try rfl)|refine Wb ?_|fail
  refine zc9 rfl (fun hq=>?_) (fun hq=>?_)
  ·refine Wk ?_
   rw [zwi hlt hk.2 hq]
  ·refine Wk ?_
   refine ⟨k+1,⟨hlt,zwh (p:=fun w:DWindow=>decide (m≤w.dst)) hlt hk.2 hq⟩,by omega,zjB (zjA hlt (by omega))⟩
 ·have hge:=zjI hdk
  refine Wk ?_
  rw [zwj (fun i hi=>hk.2 i hi (by omega))]
theorem zwm (a:Sl DWindow) (n:Int) (h:Hp) (ha:a.Ok h) (hz:a.l.length≤1048576):Ct jV 117 [a.val,.int .i64 n] h fun v h'=>∃ s:Sl DWindow,v=s.val∧s.l=zwd a.l n∧s.Ok h'∧Mine h h' s:=by
 rw [zwd]
 refine zdn (fun A W=>by simp) Tryz.func117 rfl rfl (by simp) fun W0=>?_
 repeat' first|refine Wa ?_|refine zhF (fun _=>zwe _ _ ha) ?_|refine zhF (fun _=>zun _ _) ?_|(simp (maxSteps:=2000000) only [go_sem,jq,jj,jy,jv,jk,jx];try rfl)|refine Wb ?_|fail
 refine zc9 rfl (fun hc=>?_) (fun hc=>?_)
 ·refine Wk ?_
  rw [if_neg (by intro e;rw [e.1,decide_eq_true e.2.1,decide_eq_true e.2.2] at hc;cases hc)]
  exact ⟨⟨none,0,[]⟩,rfl,rfl,zmo,Mine.nil⟩
 simp only [jp,Bool.not_eq_false',jJ,decide_eq_true_eq] at hc
 rw [if_pos ⟨hc.1,hc.2.1,hc.2.2⟩]
 refine Wk ?_
 refine zl0 (ι:=Nat) (fun k=>⟨[(1,true,.c (.v (.int .i64 n))),(5,true,.c (.s 0)),(17,true,.c (.v a.val)),(18,true,.c (.v (.int .i64 a.l.length))),(19,true,.c (.v (.int .i64 k)))],[(0,.row 198 2 ((((a.l.take k).filter (shr n)).map (shw n))).length (((((a.l.take k).filter (shr n)).map (shw n))).flatMap Enc.enc))],h,1⟩) (fun k=>k≤a.l.length) (fun k=>a.l.length - k) 0 (Nat.zero_le _) [0] ?_ ?_
 ·refine Evs ?_
  exact Gk
 intro k hk
 refine Wk ?_
 refine zc9 rfl (fun hdk=>?_) (fun hdk=>?_)
 ·have hlt:=zjH hdk
  have hlf:(((a.l.take k).filter (shr n)).map (shw n)).length≤k:=by rw [List.length_map];exact Nat.le_trans (List.length_filter_le _ _) (by rw [List.length_take];omega)
  repeat' first|refine Wa ?_|(simp (maxSteps:=2000000) only [go_sem,jq,jj,jy,jv,jk,jx,zlc ha hlt,ha.some hlt,hlt,jW];try rfl)|refine Wb ?_|fail
  refine zc9 rfl (fun hq=>?_) (fun hq=>?_)
  ·refine Wk ?_
   refine ⟨by simp only [maxLen];omega,by omega,?_⟩
   refine Wk ?_
   refine ⟨k+1,[3],hlt,by omega,?_⟩
   refine Evs ?_
   rw [zmp hlt hq,List.map_append,List.length_append,List.flatMap_append]
   refine ⟨zjB (zjA hlt (by omega)),?_⟩
   exact Gk
  ·refine Wk ?_
   refine ⟨k+1,[0],hlt,by omega,?_⟩
   refine Evs ?_
   rw [zmq hlt hq]
   refine ⟨zjB (zjA hlt (by omega)),?_⟩
   exact Gk
 ·have hge:=zjI hdk
  refine zc6 ?_
  refine Evs ?_
  rw [List.take_of_length_le hge]
  refine zlE 0 ((a.l.filter (shr n)).map (shw n)) rfl rfl rfl rfl (by decide) (fun x hx=>?_) h (Hp.le_refl _) (Mines.flat (fun _=>rfl) (fun _=>trivial)) fun s h' e1 e2 e3 e4=>?_
  ·obtain ⟨y,hy,rfl⟩:=List.mem_map.1 hx
   exact ⟨(ha.2.2.2.1 y (List.mem_filter.1 hy).1).1,i64w _⟩
  refine Wk ?_
  exact ⟨s,rfl,e1,e2,e4⟩
def zwn (l:List DWindow) (k:Nat):Bool:=match l.getLast? with|some w=>decide (w.dst=(k:Int) - 1)|none=>false
def zwo (l:List DWindow) (k:Nat):List DWindow:=if zwn l k=true then l.dropLast ++ [⟨(l.getLast?.getD dW).src,k⟩] else l ++ [⟨k,k⟩]
def zwp (p:Nat→Bool):Nat→List DWindow
 | 0=>[]
 | k+1=>if p k=true then zwo (zwp p k) k else zwp p k
theorem zwq {l:List DWindow} {k:Nat} (h:zwn l k=true):∃ l0 w,l=l0 ++ [w]∧w.dst=(k:Int) - 1∧zwo l k=l0 ++ [⟨w.src,k⟩]:=by
 unfold zwn at h
 split at h
 ·rename_i w hw
  have hd:=of_decide_eq_true h
  obtain ⟨l0,rfl⟩:∃ l0,l=l0 ++ [w]:=⟨l.dropLast,by
   have hne:l ≠ []:=by intro e;rw [e] at hw;cases hw
   rw [List.getLast?_eq_some_getLast hne,Option.some.injEq] at hw
   rw [← hw];exact (List.dropLast_concat_getLast hne).symm⟩
  refine ⟨l0,w,rfl,hd,?_⟩
  have:zwn (l0 ++ [w]) k=true:=by unfold zwn;simp [hd]
  rw [zwo,if_pos this];simp
 ·cases h
theorem zwr {l:List DWindow} {k:Nat} (h:zwn l k=false):zwo l k=l ++ [⟨k,k⟩]:=by rw [zwo,if_neg (by rw [h];exact Bool.false_ne_true)]
theorem zws {p:Nat→Bool}:∀ {k:Nat},(zwp p k).length≤k
 | 0=>Nat.le_refl _
 | k+1=>by
  have ih:=zws (p:=p) (k:=k)
  unfold zwp
  split
  ·cases h:zwn (zwp p k) k
   ·rw [zwr h,List.length_append];simp;omega
   ·obtain ⟨l0,w,e,_,e2⟩:=zwq h
    rw [e2];rw [e] at ih;simp at ih ⊢;omega
  ·omega
theorem zwt {p:Nat→Bool}:∀ {k:Nat},∀ w ∈ zwp p k,0≤w.src∧w.src≤w.dst∧w.dst < k
 | 0,w,h=>by cases h
 | k+1,w,h=>by
  have ih:=zwt (p:=p) (k:=k)
  unfold zwp at h
  split at h
  ·cases hh:zwn (zwp p k) k
   ·rw [zwr hh] at h
    rcases List.mem_append.1 h with h|h
    ·have:=ih w h;omega
    ·obtain rfl:=List.mem_singleton.1 h;simp only;omega
   ·obtain ⟨l0,w',e,h1,e2⟩:=zwq hh
    rw [e2] at h
    rcases List.mem_append.1 h with h|h
    ·have:=ih w (by rw [e];exact List.mem_append_left _ h);omega
    ·have:=ih w' (by rw [e];simp)
     obtain rfl:=List.mem_singleton.1 h;simp only;omega
  ·have:=ih w h;omega
theorem zwu {p:Nat→Bool} {k:Nat}:zwn (zwp p k) (k+1)=false:=by
 unfold zwn
 split
 ·rename_i w hw
  have hm:w ∈ zwp p k:=List.mem_of_getLast? hw
  have:=zwt w hm
  exact decide_eq_false (by omega)
 ·rfl
theorem zwv {p:Nat→Bool} {k:Nat} (h:p k=true):zwp p (k+1)=zwo (zwp p k) k:=by rw [zwp,if_pos h]
theorem zww {p:Nat→Bool} {k:Nat} (h:p k=false):zwp p (k+1)=zwp p k:=by rw [zwp,if_neg (by rw [h];exact Bool.false_ne_true)]
theorem zwx {p:Nat→Bool} {k:Nat} (hk:k≤2881) (h:Hp):∀ w ∈ zwp p k,Enc.ok h w:=fun w hw=>by
 have:=zwt w hw
 show I64 _∧I64 _
 unfold I64;omega
theorem zwy {l:List DWindow} {a:Int} {k:Nat}:zwn (l ++ [⟨a,k⟩]) (k+1)=true:=by unfold zwn;simp
theorem zwz {l0:List DWindow} {w:DWindow} {k:Int}:List.take (l0.length * 2+1) ((l0 ++ [w]).flatMap Enc.enc) ++ Value.int .i64 k :: List.drop (l0.length * 2+1+1) ((l0 ++ [w]).flatMap Enc.enc)=(l0 ++ [(⟨w.src,k⟩:DWindow)]).flatMap Enc.enc :=
 znB (α:=DWindow) (l0:=l0) (w:=w) (w':=⟨w.src,k⟩) (o:=1) (new:=[.int .i64 k]) rfl (Nat.le_refl 2)
theorem zwA {l0:List DWindow} {k:Int}:List.take (l0.length * 2+1) (l0.flatMap Enc.enc ++ [Value.int .i64 k,Value.int .i64 0]) ++ Value.int .i64 k :: List.drop (l0.length * 2+1+1) (l0.flatMap Enc.enc ++ [Value.int .i64 k,Value.int .i64 0])=(l0 ++ [(⟨k,k⟩:DWindow)]).flatMap Enc.enc:=by
 have:=zwz (l0:=l0) (w:=⟨k,0⟩) (k:=k)
 rw [List.flatMap_append] at this
 exact this
def zwB (f:zFa) (lv:Int):List DWindow:=zwp (fun m=>decide (lv≤zv1 f m)) 2881
theorem zwC (f:Nat) (cs:List Value) (p:Nat→Bool) (h:Hp) (hf:∀ k:Nat,k≤2880→Ct jV f ([.int .i64 k] ++ cs) h fun v h'=>v=.bool (p k)∧h'=h):Ct jV 138 [.func (.func f) #[] cs.toArray] h fun v h'=>∃ s:Sl DWindow,v=s.val∧s.l=zwp p 2881∧s.Ok h'∧Mine h h' s:=by
 refine zdn (fun A W=>by simp) Tryz.func138 rfl rfl (by simp) fun W0=>?_
 refine Wk ?_
 refine zl0 (ι:=Nat) (fun k=>⟨[(0,true,.c (.v (.func (.func f) #[] cs.toArray))),(3,true,.c (.s 0)),(4,true,.c (.v (.bool (zwn (zwp p k) k)))),(5,true,.c (.v (.int .i64 k)))],[(0,.row 198 2 (zwp p k).length ((zwp p k).flatMap Enc.enc))],h,1⟩) (fun k=>k≤2881) (fun k=>2881 - k) 0 (Nat.zero_le _) [0] ?_ ?_
 ·refine Evs ?_
  exact Gk
 intro k hk
 refine Wk ?_
 refine zc9 rfl (fun hd=>?_) (fun hd=>?_)
 ·have hd:=of_decide_eq_true hd
  refine Wk ?_
  refine zhF (fun _=>hf k (by omega)) ?_
  refine Wk ?_
  refine zc9 rfl (fun hq=>?_) (fun hq=>?_)
  ·rw [Bool.not_eq_true'] at hq
   refine Wk ?_
   refine ⟨k+1,[0],by omega,by omega,?_⟩
   refine Evs ?_
   rw [zww hq,zwu]
   exact Gi (zjA (n:=2881) (k:=k) (by omega) (by omega))
  rw [Bool.not_eq_false'] at hq
  refine Wk ?_
  refine zc9 rfl (fun ho=>?_) (fun ho=>?_)
  ·rw [Bool.not_eq_true'] at ho
   have hs:=zwr ho
   have hle:=zws (p:=p) (k:=k)
   have hgo:=zwv hq
   rw [hs] at hgo
   generalize zwp p k=L0 at *
   have hw:IntKind.i64.wrap (((L0.length+1:Nat):Int) - 1)=((L0.length:Nat):Int):=by rw [zjz (by omega)];omega
   refine Wk ?_
   refine ⟨by simp only [maxLen];omega,by omega,?_⟩
   have hfl:(L0.flatMap Enc.enc).length=L0.length * 2:=ziq Enc.len _
   repeat' first|refine Wa ?_|(simp only [go_sem,jq,jj,jy,jv,jk,jx,hw];try rfl)|refine Wb ?_|fail
   refine ⟨by omega,by rw [List.length_append,hfl];simp,?_⟩
   rw [zwA]
   refine Wk ?_
   refine ⟨k+1,[2],by omega,by omega,?_⟩
   refine Evs ?_
   rw [hgo,zwy,List.length_append,List.length_singleton]
   exact Gi (zjA (n:=2881) (k:=k) (by omega) (by omega))
  ·rw [Bool.not_eq_false'] at ho
   obtain ⟨l0,w,e,hw0,hs⟩:=zwq ho
   have hgo:=zwv hq
   rw [hs] at hgo
   have hle:=zws (p:=p) (k:=k)
   generalize zwp p k=L0 at *
   subst e
   have hw:IntKind.i64.wrap (((l0 ++ [w]).length:Int) - 1)=((l0.length:Nat):Int):=by rw [List.length_append] at *;rw [zjz (by simp at *;omega)];simp
   have hfl:((l0 ++ [w]).flatMap Enc.enc).length=(l0 ++ [w]).length * 2:=ziq Enc.len _
   repeat' first|refine Wa ?_|(simp only [go_sem,jq,jj,jy,jv,jk,jx,hw];try rfl)|refine Wb ?_|fail
   refine ⟨by rw [List.length_append];simp,by rw [hfl,List.length_append];simp;omega,?_⟩
   rw [zwz]
   refine Wk ?_
   refine ⟨k+1,[0],by omega,by omega,?_⟩
   refine Evs ?_
   rw [hgo,zwy,List.length_append,List.length_append,List.length_singleton,List.length_singleton,ho]
   exact Gi (zjA (n:=2881) (k:=k) (by omega) (by omega))
 ·have hd:=of_decide_eq_false hd
  have hke:k=2881:=by omega
  subst hke
  refine zc6 ?_
  refine Evs ?_
  refine zlE 0 (zwp p 2881) rfl rfl rfl rfl (by decide) (zwx (Nat.le_refl _) h) h (Hp.le_refl _) (Mines.flat (fun _=>rfl) (fun _=>trivial)) fun s h' e1 e2 e3 e4=>?_
  refine Wk ?_
  exact ⟨s,rfl,e1,e2,e4⟩
def zwD (s:DShip):Int:=if s.slow=true then Int.tdiv s.draught 50 else Int.tdiv s.draught 20
def zwE (s:DShip):Int:=IntKind.i64.wrap (IntKind.i64.wrap (s.draught+IntKind.i64.wrap (zwD s))+50)
def zwF (c:zFb) (k:Int) (s:DShip):Bool:=zva c && zvj s && decide (0≤k∧k < c.segments.length)
def zwG (c:zFb) (k:Int) (s:DShip):Int:=if zwF c k s=true then IntKind.i64.wrap (zwE s - (c.segments.getD k.toNat dG).depth) else 0
def zwH (c:zFb) (k:Int) (s:DShip):Int:=if zwF c k s=true then zvG s (c.segments.getD k.toNat dG) else 0
theorem zwI {c:zFb} {k:Int} {s:DShip} (h:zwF c k s=true):zva c=true∧zvj s=true∧0≤k∧k < c.segments.length:=by
 simp only [zwF,jJ,decide_eq_true_eq] at h
 exact ⟨h.1.1,h.1.2,h.2.1,h.2.2⟩
theorem zwJ (s:DShip) (h:Hp):Ct jV 120 [s.v] h fun v h'=>v=.int .i64 (IntKind.i64.wrap (zwD s))∧h'=h:=by
 rw [zwD]
 refine zdn (fun A W=>by simp) Tryz.func120 rfl rfl (by simp) fun W0=>?_
 refine Wk ?_
 refine zc9 rfl (fun hq=>?_) (fun hq=>?_)
 ·refine Wk ?_
  refine ⟨by decide,?_⟩
  refine Wk ?_
  rw [if_pos hq]
 ·refine Wk ?_
  refine ⟨by decide,?_⟩
  refine Wk ?_
  rw [if_neg (by rw [hq];exact Bool.false_ne_true)]
theorem zwK (s:DShip) (h:Hp):Ct jV 78 [s.v] h fun v h'=>v=.int .i64 (zwE s)∧h'=h:=by
 rw [zwE]
 refine zdn (fun A W=>by simp) Tryz.func78 rfl rfl (by simp) fun W0=>?_
 refine Wk ?_
 refine znv rfl ?_
 refine U_t [0,2,1] rfl ?_
 refine Evs ?_
 refine U_1 3 0 [1,0] rfl rfl ?_
 refine Evs ?_
 refine zhF (fun _=>zwJ _ _) ?_
 refine Evs ?_
 refine U_t [4,5,6] rfl ?_
 refine Evs ?_
 refine U_d ?_
 exact Wk0
theorem zwL (c:DChart) (k:Int) (s:DShip) (h:Hp) (hc:Enc.ok h c) (hs:Enc.ok h s):Ct jV 40 [c.v,.int .i64 k,s.v] h fun v h'=>v=.bool (zwF (Con.con c) k s)∧h'=h:=by
 have hl:=hc.2.max
 have hw:IntKind.i64.wrap ((c.segments.l.length:Int) - 1)=(c.segments.l.length:Int) - 1:=zjz (by omega)
 refine zdn (fun A W=>by simp) Tryz.func40 rfl rfl (by simp) fun W0=>?_
 repeat' first|refine Wa ?_|refine zhF (fun _=>zvh _ _ hc) ?_|refine zhF (fun _=>zvq _ _ hs) ?_|refine zhF (fun _=>zuo _ _ _) ?_|(simp only [go_sem,jq,jj,jy,jv,jk,jx];try rfl)|refine Wb ?_|fail
 congr 1
 rw [zwF,zvJ,Bool.eq_iff_iff]
 simp only [jJ,decide_eq_true_eq,and_assoc]
theorem zwM (c:DChart) (k:Int) (s:DShip) (h:Hp) (hc:Enc.ok h c) (hs:Enc.ok h s):Ct jV 41 [c.v,.int .i64 k,s.v] h fun v h'=>v=.int .i64 (zwG (Con.con c) k s)∧h'=h:=by
 have hg:=hc.2
 rw [zwG]
 refine zdn (fun A W=>by simp) Tryz.func41 rfl rfl (by simp) fun W0=>?_
 repeat' first|refine Wa ?_|refine zhF (fun _=>zwL _ _ _ _ hc hs) ?_|(simp only [go_sem,jq,jj,jy,jv,jk,jx];try rfl)|refine Wb ?_|fail
 refine zc9 rfl (fun hq=>?_) (fun hq=>?_)
 ·rw [Bool.not_eq_true'] at hq
  rw [if_neg (by rw [hq];exact Bool.false_ne_true)]
  exact Wk0
 rw [Bool.not_eq_false'] at hq
 rw [if_pos hq]
 obtain ⟨h1,h2,h3,h4⟩:=zwI hq
 rw [zvJ] at h4 ⊢
 have hi:k.toNat < c.segments.l.length:=by omega
 rw [gget hi]
 refine Wk ?_
 refine znv rfl ?_
 refine U_t [0,2,4,3,5,6,7] rfl ?_
 simp only [go_sem,jq,jj,jy,jv,jk,jx,zkU hg hi,zlS hg hi,hg.some hi,h3,h4]
 refine U_1 1 0 [7,6,5,3,2] rfl rfl ?_
 simp only [go_sem,jq,jj,jy,jv,jk,jx,zkU hg hi,zlS hg hi,hg.some hi,h3,h4]
 refine zhF (fun _=>zwK _ _) ?_
 simp only [go_sem,jq,jj,jy,jv,jk,jx,zkU hg hi,zlS hg hi,hg.some hi,h3,h4]
 refine U_t [8,9] rfl ?_
 simp only [go_sem,jq,jj,jy,jv,jk,jx,zkU hg hi,zlS hg hi,hg.some hi,h3,h4]
 refine U_d ?_
 exact Wk0
theorem zwN (c:DChart) (k:Int) (s:DShip) (h:Hp) (hc:Enc.ok h c) (hs:Enc.ok h s):Ct jV 119 [c.v,.int .i64 k,s.v] h fun v h'=>v=.int .i64 (zwH (Con.con c) k s)∧h'=h:=by
 have hg:=hc.2
 rw [zwH]
 refine zdn (fun A W=>by simp) Tryz.func119 rfl rfl (by simp) fun W0=>?_
 repeat' first|refine Wa ?_|refine zhF (fun _=>zvh _ _ hc) ?_|refine zhF (fun _=>zvq _ _ hs) ?_|refine zhF (fun _=>zuo _ _ _) ?_|(simp only [go_sem,jq,jj,jy,jv,jk,jx];try rfl)|refine Wb ?_|fail
 have e:zwF (Con.con c) k s=(zva (Con.con c) && (zvj s && (decide (0≤k) && decide (k < (c.segments.l.length:Int))))):=by
  rw [zwF,zvJ,Bool.eq_iff_iff]
  simp only [jJ,decide_eq_true_eq,and_assoc]
 refine zc9 rfl (fun hq=>?_) (fun hq=>?_)
 ·rw [if_neg (by rw [e];intro e';simp only [jJ] at e';rw [e'.1,e'.2.1,e'.2.2.1,e'.2.2.2] at hq;cases hq)]
  exact Wk0
 simp only [jp,Bool.not_eq_false',jJ,decide_eq_true_eq,and_assoc] at hq
 obtain ⟨h1,h2,h3,h4⟩:=hq
 rw [if_pos (by rw [e,h1,h2,decide_eq_true h3,decide_eq_true h4];rfl),zvJ]
 have hi:k.toNat < c.segments.l.length:=by omega
 rw [gget hi]
 refine Wk ?_
 refine znv rfl ?_
 refine U_t [0,1,3,2,4,5] rfl ?_
 simp only [go_sem,jq,jj,jy,jv,jk,jx,zkU hg hi,hg.some hi,h3,h4]
 refine U_1 6 0 [] rfl rfl ?_
 simp only [go_sem,jq,jj,jy,jv,jk,jx,zkU hg hi,hg.some hi,h3,h4]
 refine zhF (fun _=>zvM _ _ _) ?_
 simp only [go_sem,jq,jj,jy,jv,jk,jx,zkU hg hi,hg.some hi,h3,h4]
 refine U_t [7] rfl ?_
 simp only [go_sem,jq,jj,jy,jv,jk,jx,zkU hg hi,hg.some hi,h3,h4]
 refine U_d ?_
 exact Wk0
def zwO (f:zFa) (c:zFb) (k:Int) (s:DShip):List DWindow:=if zuY f=true∧zwF c k s=true then zwd (zwB f (zwG c k s)) (zwH c k s) else []
theorem zwP (f:DForecast) (lv m:Int) (p q:Nat) (h:Hp) (hf:Enc.ok h f) (h0:0 < f.surges.l.length) (hp:h.lds (some ⟨p,0,none⟩) 3=some [.int .i64 f.tide.mean,f.tide.parts.val,f.surges.val]) (hq:h.lds (some ⟨q,0,none⟩) 1=some [.int .i64 lv]):Ct jV 139 [.int .i64 m,.pointer (some ⟨p,0,none⟩),.pointer (some ⟨q,0,none⟩)] h fun v h'=>v=.bool (decide (lv≤zv1 (Con.con f) m))∧h'=h:=by
 refine zdn (fun A W=>by simp) Tryz.func139 rfl rfl (by simp) fun W0=>?_
 refine Wk ?_
 refine znv rfl ?_
 refine U_t [0,1,3] rfl ?_
 simp only [go_sem,jq,jj,jy,jv,jk,jx,hp,hq]
 refine U_1 2 0 [3] rfl rfl ?_
 simp only [go_sem,jq,jj,jy,jv,jk,jx,hp,hq]
 refine zhF (fun _=>zv8 f _ _ hf h0) ?_
 simp only [go_sem,jq,jj,jy,jv,jk,jx,hp,hq]
 refine U_t [4,5] rfl ?_
 simp only [go_sem,jq,jj,jy,jv,jk,jx,hp,hq]
 refine U_d ?_
 exact Wk0
theorem zwQ (f:DForecast) (lv:Int) (h:Hp) (hf:Enc.ok h f) (hok:zuY (Con.con f)=true):Ct jV 118 [f.v,.int .i64 lv] h fun v h'=>∃ s:Sl DWindow,v=s.val∧s.l=zwB (Con.con f) lv∧s.Ok h'∧Mine h h' s:=by
 have h0:0 < f.surges.l.length:=by have:=zvW hok;rwa [zvX] at this
 refine zdn (fun A W=>by simp) Tryz.func118 rfl rfl (by simp) fun W0=>?_
 repeat' first|refine Wa ?_|refine zhF (fun _=>zu0 f _ hf) ?_|(simp only [go_sem,jq,jj,jy,jv,jk,jx];try rfl)|refine Wb ?_|fail
 refine zc9 rfl (fun hc=>?_) (fun hc=>?_)
 ·rw [hok] at hc;cases hc
 refine zc5 ?_
 refine Evs ?_
 refine zmE 1 rfl rfl fun q hq _=>?_
 refine Evs ?_
 refine zmE 0 rfl rfl fun p hp _=>?_
 refine Evs ?_
 have hq:h q=none:=hq
 have hp:(h.ins q (.cells #[.int .i64 lv] 3 (0,0))) p=none:=hp
 have lq:h.le (h.ins q (.cells #[.int .i64 lv] 3 (0,0))):=Hp.ins_le hq
 have lp:=Hp.ins_le (o:=.cells #[.int .i64 f.tide.mean,f.tide.parts.val,f.surges.val] 28 (0,0)) hp
 have hne:q ≠ p:=fun e=>by subst e;rw [Hp.ins_same] at hp;cases hp
 have hl:=Hp.le_trans lq lp
 refine zlr [1] rfl ?_
 refine Evs ?_
 refine zkj (zwC 139 [.pointer (some ⟨p,0,none⟩),.pointer (some ⟨q,0,none⟩)] (fun m=>decide (lv≤zv1 (Con.con f) m)) _ (fun k _=>zwP f lv k p q _ (Enc.mono hl hf) h0 (zmG (xs:=[.int .i64 f.tide.mean,f.tide.parts.val,f.surges.val]) Hp.ins_same rfl (Nat.le_refl 3)) (zmG (xs:=[.int .i64 lv]) (by rw [Hp.ins_ne hne,Hp.ins_same]) rfl (Nat.le_refl 1)))) rfl ?_
 rintro v h2 le2 ⟨s2,rfl,q1,q2,q3⟩
 refine Wk ?_
 exact ⟨s2,rfl,q1,q2,Mine.back hl q3⟩
theorem zwR (f:DForecast) (c:DChart) (k:Int) (s:DShip) (h:Hp) (hf:Enc.ok h f) (hc:Enc.ok h c) (hs:Enc.ok h s):Ct jV 76 [f.v,c.v,.int .i64 k,s.v] h fun v h'=>∃ r:Sl DWindow,v=r.val∧r.l=zwO (Con.con f) (Con.con c) k s∧r.Ok h'∧Mine h h' r:=by
 rw [zwO]
 refine zdn (fun A W=>by simp) Tryz.func76 rfl rfl (by simp) fun W0=>?_
 repeat' first|refine Wa ?_|refine zhF (fun _=>zu0 f _ hf) ?_|refine zhF (fun _=>zwL c _ s _ hc hs) ?_|(simp only [go_sem,jq,jj,jy,jv,jk,jx];try rfl)|refine Wb ?_|fail
 refine zc9 rfl (fun hq=>?_) (fun hq=>?_)
 ·refine Wk ?_
  rw [if_neg (by intro e;rw [e.1,e.2] at hq;cases hq)]
  exact ⟨⟨none,0,[]⟩,rfl,rfl,zmo,Mine.nil⟩
 simp only [jp,Bool.not_eq_false'] at hq
 rw [if_pos ⟨hq.1,hq.2⟩]
 have h0:0 < f.surges.l.length:=by have:=zvW hq.1;rwa [zvX] at this
 refine Wk ?_
 refine znv rfl ?_
 refine U_t [0,1,2,3,6,7,8] rfl ?_
 refine Evs ?_
 refine U_1 4 0 [8,6,0] rfl rfl ?_
 refine Evs ?_
 refine zhF (fun _=>zwM c _ s _ hc hs) ?_
 refine Evs ?_
 refine U_1 5 0 [8,6] rfl rfl ?_
 refine Evs ?_
 refine zkj (zwQ f _ _ hf hq.1) rfl ?_
 rintro v h1 le1 ⟨s1,rfl,e1,o1,m1⟩
 refine Evs ?_
 refine U_1 9 0 [] rfl rfl ?_
 refine Evs ?_
 refine zhF (fun _=>zwN c _ s _ (Enc.mono (x:=c) le1 hc) (Enc.mono (x:=s) le1 hs)) ?_
 refine Evs ?_
 refine U_1 10 0 [] rfl rfl ?_
 refine Evs ?_
 refine zkj (zwm s1 _ _ o1 (by rw [e1];exact Nat.le_trans zws (by decide))) rfl ?_
 rintro v h2 le2 ⟨s2,rfl,e2,o2,m2⟩
 refine Evs ?_
 refine U_t [11] rfl ?_
 refine Evs ?_
 refine U_d ?_
 refine Wk ?_
 exact ⟨s2,rfl,by rw [e2,e1],o2,Mine.back le1 m2⟩
def zwS (s:DSegment) (pt:Int):Int:=if pt=s.a then s.b else if pt=s.b then s.a else -1
def zwT (g:List DSegment) (pts:List Int) (s:Int):Option (List Int) :=
 if 0≤s∧s < g.length then (if zwS (g.getD s.toNat dG) (pts.getLast?.getD 0) < 0∨zwS (g.getD s.toNat dG) (pts.getLast?.getD 0) ∈ pts then none else some (pts ++ [zwS (g.getD s.toNat dG) (pts.getLast?.getD 0)])) else none
def ptsK (g:List DSegment) (a:Int) (r:List Int):Nat→Option (List Int)
 | 0=>some [a]
 | k+1=>(ptsK g a r k).bind fun pts=>zwT g pts (r.getD k 0)
def zwU (c:zFb) (a:Int) (r:List Int):Option (List Int):=if 0≤a∧a < c.points.length then ptsK c.segments a r r.length else none
def zwV (c:zFb) (a:Int) (r:List Int):Option (List Int):=if zva c=true then zwU c a r else none
theorem zwW {g:List DSegment} {a:Int} {r:List Int} {k:Nat} (h:ptsK g a r k=none):∀ {n:Nat},k≤n→ptsK g a r n=none
 | 0,hn=>by rw [← Nat.le_zero.1 hn,h]
 | n+1,hn=>by
  rcases Nat.lt_or_ge k (n+1) with h1|h1
  ·rw [ptsK,zwW h (Nat.le_of_lt_succ h1)];rfl
  ·obtain rfl:k=n+1:=by omega
   exact h
theorem zwX {c:zFb} (h:zva c=true):c.points.length≤8∧∀ i,i < c.segments.length→0≤(c.segments.getD i dG).a∧(c.segments.getD i dG).a < c.points.length∧0≤(c.segments.getD i dG).b∧(c.segments.getD i dG).b < c.points.length:=by
 simp only [zva,jJ,decide_eq_true_eq] at h
 refine ⟨h.1.1.1,fun i hi=>?_⟩
 have:=h.2 i hi
 simp only [zu9,zu7,jJ,decide_eq_true_eq] at this
 exact ⟨this.1.1,this.1.2.1,this.1.2.2.1,this.1.2.2.2.1⟩
theorem zwY {c:zFb} (h:zva c=true) {i:Nat} (hi:i < c.segments.length) (p:Int):zwS (c.segments.getD i dG) p < c.points.length∧-1≤zwS (c.segments.getD i dG) p:=by
 have h1:=(zwX h).2 i hi
 unfold zwS
 split
 ·omega
 ·split <;> omega
theorem zwZ (c:DChart):(Con.con c).points=c.points.l:=zu2 _
theorem zw0 (s:DSegment) (pt:Int) (h:Hp):Ct jV 147 [s.v,.int .i64 pt] h fun v h'=>v=.int .i64 (zwS s pt)∧h'=h:=by
 refine zdn (fun A W=>by simp) Tryz.func147 rfl rfl (by simp) fun W0=>?_
 refine Wk ?_
 refine zc9 rfl (fun hq=>?_) (fun hq=>?_)
 ·refine Wk ?_
  rw [zwS,if_pos (eq_of_beq hq)]
 ·refine Wk ?_
  refine zc9 rfl (fun hr=>?_) (fun hr=>?_)
  ·refine Wk ?_
   rw [zwS,if_neg (ne_of_beq_false hq),if_pos (eq_of_beq hr)]
  ·refine Wk ?_
   rw [zwS,if_neg (ne_of_beq_false hq),if_neg (ne_of_beq_false hr)]
theorem zw1 {g:List DSegment} {pts pts':List Int} {s:Int} (h:zwT g pts s=some pts'):(0≤s∧s < g.length)∧0≤zwS (g.getD s.toNat dG) (pts.getLast?.getD 0)∧zwS (g.getD s.toNat dG) (pts.getLast?.getD 0) ∉ pts∧pts'=pts ++ [zwS (g.getD s.toNat dG) (pts.getLast?.getD 0)]:=by
 unfold zwT at h
 split at h
 ·rename_i h1
  split at h
  ·cases h
  ·rename_i h2
   rw [not_or] at h2
   exact ⟨h1,by omega,h2.2,(Option.some.inj h).symm⟩
 ·cases h
theorem zw2 {g:List DSegment} {a:Int} {r pts:List Int} {k:Nat} (hk:k < r.length) (h:ptsK g a r k=some pts):ptsK g a r (k+1)=zwT g pts r[k]:=by
 rw [ptsK,h,Option.bind_some,List.getD_eq_getElem?_getD,List.getElem?_eq_getElem hk];rfl
theorem zw3 {g:List DSegment} {a:Int} {r pts:List Int} {k:Nat} (h:ptsK g a r (k+1)=some pts):∃ p,ptsK g a r k=some p∧zwT g p (r.getD k 0)=some pts:=by
 rw [ptsK] at h
 cases hk:ptsK g a r k with
 | none=>rw [hk] at h;cases h
 | some p=>rw [hk,Option.bind_some] at h;exact ⟨p,rfl,h⟩
theorem zw4 {g:List DSegment} {a:Int} {r:List Int}:∀ {k:Nat} {pts:List Int},ptsK g a r k=some pts→pts.length=k+1
 | 0,pts,h=>by rw [ptsK] at h;rw [← Option.some.inj h];rfl
 | k+1,pts,h=>by
  obtain ⟨p,h1,h2⟩:=zw3 h
  rw [(zw1 h2).2.2.2,List.length_append,zw4 h1];rfl
theorem zw5 {g:List DSegment} {a:Int} {r:List Int}:∀ {k:Nat} {pts:List Int},ptsK g a r k=some pts→pts.Nodup
 | 0,pts,h=>by rw [ptsK] at h;rw [← Option.some.inj h];simp
 | k+1,pts,h=>by
  obtain ⟨p,h1,h2⟩:=zw3 h
  obtain ⟨_,_,h3,h4⟩:=zw1 h2
  rw [h4,List.nodup_append]
  exact ⟨zw5 h1,by simp,fun x hx y hy e=>by rw [List.mem_singleton.1 hy] at e;rw [e] at hx;exact h3 hx⟩
theorem zw6 {c:zFb} (hC:zva c=true) {a:Int} (ha:0≤a∧a < c.points.length) {r:List Int}:∀ {k:Nat} {pts:List Int},ptsK c.segments a r k=some pts→∀ x ∈ pts,0≤x∧x < c.points.length
 | 0,pts,h,x,hx=>by rw [ptsK] at h;rw [← Option.some.inj h,List.mem_singleton] at hx;rw [hx];exact ha
 | k+1,pts,h,x,hx=>by
  obtain ⟨p,h1,h2⟩:=zw3 h
  obtain ⟨h0,h3,_,h4⟩:=zw1 h2
  rw [h4] at hx
  rcases List.mem_append.1 hx with hx|hx
  ·exact zw6 hC ha h1 x hx
  ·rw [List.mem_singleton.1 hx]
   exact ⟨h3,(zwY hC (by omega) _).1⟩
theorem zw7 {l:List Int} {k:Nat} (h:l.length=k+1):l.getLast?.getD 0=l.getD k 0:=by
 rw [List.getLast?_eq_getElem?,h,List.getD_eq_getElem?_getD];rfl
def metV (l:List Int):List Value:=(List.range 8).map fun j:Nat=>.bool (decide ((j:Int) ∈ l))
def metC (l:List Int):List SC:=(metV l).map .v
theorem zw8 {l:List Int}:(metV l).length=8:=by rw [metV,List.length_map,List.length_range]
theorem zw9 {l:List Int}:(metC l).length=8:=by rw [metC,List.length_map,zw8]
theorem zxa {l:List Int} {x:Int} (h:0≤x∧x < 8):List.take x.toNat (metC l) ++ SC.v (.bool true) :: List.drop (x.toNat+1) (metC l)=metC (l ++ [x]):=by
 rw [znJ (by rw [zw9];omega)]
 apply List.ext_getElem
 ·rw [List.length_set,zw9,zw9]
 ·intro i h1 h2
  rw [zw9] at h2
  simp only [metC,metV,List.getElem_set,List.getElem_map,List.getElem_range,List.mem_append,List.mem_singleton]
  by_cases e:x.toNat=i
  ·rw [if_pos e,decide_eq_true (.inr (by omega))]
  ·rw [if_neg e]
   congr 2
   rw [decide_eq_decide]
   exact ⟨.inl,fun h=>h.resolve_right (by omega)⟩
theorem zxb {l:List Int} {x:Int} (h:0≤x∧x < 8):(metC l).getD x.toNat (.v undef)=.v (.bool (decide (x ∈ l))):=by
 have hx:x.toNat < (metC l).length:=by rw [zw9];omega
 rw [List.getD_eq_getElem?_getD,List.getElem?_eq_getElem hx]
 simp only [metC,metV,List.getElem_map,List.getElem_range,Option.getD_some,Int.toNat_of_nonneg h.1]
theorem zxc {c:zFb} {a:Int} {r:List Int} (h:¬ (0≤a∧a < c.points.length)):zwU c a r=none:=by rw [zwU,if_neg h]
theorem zxd {c:zFb} {a:Int} {r:List Int} (h:0≤a∧a < c.points.length):zwU c a r=ptsK c.segments a r r.length:=by rw [zwU,if_pos h]
theorem zxe (c:DChart) (a:Int) (r:Sl Int) (h:Hp) (hc:Enc.ok h c) (hr:r.Ok h) (hC:zva (Con.con c)=true) (hz:r.l.length≤1048576):Ct jV 134 [c.v,.int .i64 a,r.val] h fun v h'=>∃ s:Sl Int,v=.tuple #[s.val,.bool (zwU (Con.con c) a r.l).isSome]∧s.l=(zwU (Con.con c) a r.l).getD []∧s.Ok h':=by
 have hl:=hr.max
 obtain ⟨h8,hsp⟩:=zwX hC
 have hgm:=hc.2.max
 have hsl:(Con.con c).segments=c.segments.l:=zvJ c
 have hpl:(Con.con c).points=c.points.l:=zwZ c
 refine zdn (fun A W=>by simp) Tryz.func134 rfl rfl (by simp) fun W0=>?_
 repeat' first|refine Wa ?_|refine zhF (fun _=>zuo _ _ _) ?_|(simp only [go_sem,jq,jj,jy,jv,jk,jx];try rfl)|refine Wb ?_|fail
 refine zc9 rfl (fun hx=>?_) (fun hx=>?_)
 ·have hin:¬ (0≤a∧a < (Con.con c).points.length):=by
   rw [hpl];rw [Bool.not_eq_true',Bool.and_eq_false_iff,decide_eq_false_iff_not,decide_eq_false_iff_not] at hx;omega
  refine Wk ?_
  rw [zxc hin]
  exact ⟨⟨none,0,[]⟩,rfl,rfl,zmo⟩
 have hin:0≤a∧a < (Con.con c).points.length:=by
  rw [hpl];rw [Bool.not_eq_false',jJ,decide_eq_true_eq,decide_eq_true_eq] at hx;omega
 obtain ⟨ha0,ha1⟩:=hin
 have ha8:a < ((8:Nat):Int):=by omega
 have ha7:a.toNat≤7:=by omega
 rw [zxd ⟨ha0,ha1⟩,hsl]
 repeat' first|refine Wa ?_|(simp only [go_sem,jq,jj,jy,jv,jk,jx,ha0,ha8,ha7,Nat.zero_add,Nat.mul_one,implies_true,true_and];try rfl)|refine Wb ?_|fail
 refine zl0 (ι:=Nat × List Int) (fun i=>⟨[(1,true,.c (.v (.int .i64 (i.2.getLast?.getD 0)))),(3,true,.c (.p 0 0)),(6,true,.c (.v (.slice none 0 0))),(7,true,.c (.v (.bool false))),(8,true,.c (.p 1 0)),(9,true,.c (.s 2)),(22,true,.c (.v r.val)),(23,true,.c (.v (.int .i64 r.l.length))),(24,true,.c (.v (.int .i64 i.1)))],[(0,.box 32 [.v c.points.val,.v c.segments.val]),(1,.box 216 (metC i.2)),(2,.row 3 1 i.2.length (i.2.flatMap Enc.enc))],h,3⟩) (fun i=>i.1≤r.l.length∧ptsK c.segments.l a r.l i.1=some i.2) (fun i=>r.l.length - i.1) (0,[a]) ⟨Nat.zero_le _,rfl⟩ [0,1,2] ?_ ?_
 ·refine Evs ?_
  refine ⟨⟨rfl,rfl⟩,congrArg some (congrArg _ (zxa (l:=[]) ⟨ha0,by omega⟩)),?_⟩
  exact Gk
 rintro ⟨k,l⟩ ⟨hkn,hpt⟩
 simp only at hkn hpt
 have hlen:=zw4 hpt
 have hpi:=zw6 hC (a:=a) ⟨ha0,ha1⟩ (r:=r.l) (k:=k) (pts:=l) (by rw [hsl];exact hpt)
 refine Wk ?_
 refine zc9 rfl (fun hd=>?_) (fun hd=>?_)
 ·have hlt:=zjH hd
  have hnx:=zw2 hlt hpt
  have hno:zwT c.segments.l l r.l[k]=none→ptsK c.segments.l a r.l r.l.length=none:=fun e=>zwW (k:=k+1) (by rw [hnx,e]) hlt
  repeat' first|refine Wa ?_|refine zhF (fun _=>zuo _ _ _) ?_|(simp only [go_sem,jq,jj,jy,jv,jk,jx,zkv hr hlt,hr.some hlt,hlt,jW];try rfl)|refine Wb ?_|fail
  obtain ⟨x,hxe⟩:∃ x,r.l[k]=x:=⟨_,rfl⟩
  rw [hxe] at hnx hno ⊢
  refine zc9 rfl (fun hx=>?_) (fun hx=>?_)
  ·have hin:¬ (0≤x∧x < c.segments.l.length):=by
    rw [Bool.not_eq_true',Bool.and_eq_false_iff,decide_eq_false_iff_not,decide_eq_false_iff_not] at hx;omega
   refine Wk ?_
   rw [hno (by rw [zwT,if_neg hin])]
   exact ⟨⟨none,0,[]⟩,rfl,rfl,zmo⟩
  have hin:0≤x∧x < c.segments.l.length:=by
   rw [Bool.not_eq_false',jJ,decide_eq_true_eq,decide_eq_true_eq] at hx;omega
  obtain ⟨hx0,hx1⟩:=hin
  have hsi:x.toNat < c.segments.l.length:=by omega
  obtain ⟨y,hye⟩:∃ y,zwS c.segments.l[x.toNat] (l.getLast?.getD 0)=y:=⟨_,rfl⟩
  have hst:zwT c.segments.l l x=if y < 0∨y ∈ l then none else some (l ++ [y]):=by
   rw [zwT,if_pos ⟨hx0,hx1⟩,gget hsi,hye]
  have hy8:y < ((8:Nat):Int):=by
   have:=(zwY hC (i:=x.toNat) (by rw [hsl];exact hsi) (l.getLast?.getD 0)).1
   rw [hsl,gget hsi,hye] at this
   omega
  repeat' first|refine Wa ?_|refine zhF (fun _=>zw0 c.segments.l[x.toNat] (l.getLast?.getD 0) _) ?_|(simp only [go_sem,jq,jj,jy,jv,jk,jx,zkU hc.2 hsi,hc.2.some hsi,zlS hc.2 hsi,hsi,hx0,hx1,jW,jY,implies_true,true_and,and_true,and_self];try rfl)|refine Wb ?_|fail
  rw [hye]
  by_cases hy:y < 0
  ·repeat' first|refine Wa ?_|(simp only [go_sem,jq,jj,jy,jv,jk,jx,eq_true hy,reduceCtorEq,decide_true,decide_false,Bool.not_true,Bool.not_false,Bool.true_or,Bool.false_or,Bool.false_eq_true,false_implies,implies_true,true_and];try rfl)|refine Wb ?_|fail
   refine zc9 rfl (fun hz=>?_) (fun hz=>?_)
   case refine_2=>cases hz
   refine Wk ?_
   rw [hno (by rw [hst,if_pos (.inl hy)])]
   exact ⟨⟨none,0,[]⟩,rfl,rfl,zmo⟩
  have hy0:0≤y:=by omega
  have hy7:y.toNat≤7:=by omega
  have hy9:y.toNat < 8:=by omega
  have hgt:=zxb (l:=l) (x:=y) ⟨hy0,by omega⟩
  have hst2:=zxa (l:=l) (x:=y) ⟨hy0,by omega⟩
  repeat' first|refine Wa ?_|(simp only [go_sem,jq,jj,jy,jv,jk,jx,eq_false hy,reduceCtorEq,hy0,hy8,hy7,hy9,hgt,zw9,Nat.zero_add,Nat.mul_one,decide_true,decide_false,Bool.not_true,Bool.not_false,Bool.true_or,Bool.false_or,Bool.false_eq_true,false_implies,implies_true,true_and];try rfl)|refine Wb ?_|fail
  refine zc9 rfl (fun hz=>?_) (fun hz=>?_)
  ·have hz:y ∈ l:=of_decide_eq_true hz
   refine Wk ?_
   rw [hno (by rw [hst,if_pos (.inr hz)])]
   exact ⟨⟨none,0,[]⟩,rfl,rfl,zmo⟩
  have hz:¬ (y < 0∨y ∈ l):=not_or.2 ⟨hy,of_decide_eq_false hz⟩
  rw [if_neg hz] at hst
  repeat' first|refine Wa ?_|(simp only [go_sem,jq,jj,jy,jv,jk,jx,hy0,hy8,hy7,hy9,hst2,zw9,Nat.zero_add,Nat.mul_one,implies_true,true_and];try rfl)|refine Wb ?_|fail
  refine ⟨by simp only [maxLen];omega,by omega,?_⟩
  refine Wk ?_
  refine ⟨(k+1,l ++ [y]),[0,1,4],⟨hlt,by rw [hnx,hst]⟩,by simp only;omega,?_⟩
  refine Evs ?_
  simp only [List.flatMap_append,List.length_append,List.getLast?_concat,Option.getD_some]
  exact Gi (zjA hlt (by omega))
 ·have hge:=zjI hd
  obtain rfl:k=r.l.length:=by omega
  refine zc6 ?_
  refine Evs ?_
  refine znD 2 l rfl rfl rfl rfl fun s h' e1 R f1 l1 k1=>?_
  refine Wk ?_
  rw [hpt]
  refine ⟨s,rfl,e1,R.ok (by decide) fun x hx=>?_⟩
  have:=hpi x (by rw [← e1];exact hx)
  show I64 _;unfold I64;omega
end Go.Proofs.YtdeflkhkfmjckaaGreat
