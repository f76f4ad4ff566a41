/- What functions of the given program compute, as contracts. -/
import Derived.Test.YtdejfjdbcggilaaGreatSGFnRefusalsx5
import Derived.Test.YtdejfjdbcggilaaGreatXGFnRefusals17
import Derived.Test.YtdejfjdbcggilaaGreatXGFnRefusals7
set_option linter.unusedVariables false
set_option linter.unusedSimpArgs false
set_option maxRecDepth 4000
open Nat renaming reduceAdd → jq, reduceMul → jj, reduceBEq → jy, reduceLeDiff → jv, reduceLT → jk, reduceEqDiff → jx
open Bool renaming or_eq_false_iff → jp, or_eq_true → jQ, and_eq_true → jJ
open Int renaming toNat_natCast → jW, natCast_nonneg → jY
open Go.Proofs.Tryz renaming prog → jV
namespace Go.Proofs.YtdejfjdbcggilaaGreat
open Go Go.SL
set_option maxHeartbeats 1000000
def zQn (p:DPart):Prop:=0≤p.amp∧p.amp < 300∧p.period ∈ ([744,720,1440,372,240]:List Int)∧0≤p.phase∧p.phase < p.period
def zQo (t:DTide):Prop:=(0≤t.mean∧t.mean < 300)∧(1≤t.parts.l.length∧t.parts.l.length≤2)∧∀ p ∈ t.parts.l,zQn p
def GSur (l:List DSurge):Prop:=(1≤l.length∧l.length≤3)∧(l.getD 0 dS).src=0∧∀ i,i < l.length→zzU l i=true
def nSea:ByteArray:=⟨#[115,101,97]⟩
def nBar:ByteArray:=⟨#[98,97,114]⟩
def zQp:ByteArray:=⟨#[114,111,97,100]⟩
def zQq:ByteArray:=⟨#[113,117,97,121]⟩
def zQr:ByteArray:=⟨#[100,111,99,107]⟩
def ptsG (w:Bool) (o2:Option Int):List DPoint:=[⟨nSea,true⟩,⟨nBar,false⟩,⟨zQp,w⟩,⟨zQq,true⟩] ++ (match o2 with|none=>[]|some _=>[⟨zQr,true⟩])
def zQs (d1 m1 d2 m2 d3 m3:Int) (mt:Bool) (o1:Option (Int × Int)) (o2:Option Int):List DSegment :=
 [⟨0,1,900+d1,10+m1,false⟩,⟨1,2,800+d2,10+m2,mt⟩,⟨2,3,900+d3,5+m3,false⟩] ++ (match o1 with|none=>[]|some q=>[⟨3,1,700+q.1,20+q.2,true⟩]) ++ (match o2 with|none=>[]|some d=>[⟨2,4,800+d,15,false⟩])
def zQt (c:DChart):Prop:=∃ (w mt:Bool) (d1 m1 d2 m2 d3 m3:Int) (o1:Option (Int × Int)) (o2:Option Int),
 ((0≤d1∧d1 < 300)∧(0≤m1∧m1 < 40)∧(0≤d2∧d2 < 300)∧(0≤m2∧m2 < 30)∧(0≤d3∧d3 < 200)∧(0≤m3∧m3 < 20)) ∧
 (∀ q,o1=some q→(0≤q.1∧q.1 < 300)∧(0≤q.2∧q.2 < 30))∧(∀ d,o2=some d→0≤d∧d < 300)∧c.points.l=ptsG w o2∧c.segments.l=zQs d1 m1 d2 m2 d3 m3 mt o1 o2
def zQu (i:Nat):ByteArray:=⟨#[115,UInt8.ofNat (48+i)]⟩
def zQv (k:Int) (i:Nat) (s:DShip):Prop:=s.name=zQu i∧(40≤s.length∧s.length < 240)∧(600≤s.draught∧s.draught < 1100)∧(0≤s.line∧s.line < 4)∧(0≤s.tugs∧s.tugs < k)
def zQw (k:Int) (l:List DShip):Prop:=(1≤l.length∧l.length≤3)∧∀ i,i < l.length→zQv k i (l.getD i dH)
def zQx (w:DCrew):Prop:=(1≤w.tugs∧w.tugs < 5)∧(1≤w.pilots∧w.pilots < 4)∧(0≤w.rest∧w.rest < 60)∧w.moves.l.length=64∧∀ y ∈ w.moves.l,0≤y∧y≤20
structure zQy (x:DHarbour):Prop where
 mean:150≤x.forecast.tide.mean∧x.forecast.tide.mean < 450
 parts:(1≤x.forecast.tide.parts.l.length∧x.forecast.tide.parts.l.length≤2)∧∀ p ∈ x.forecast.tide.parts.l,zQn p
 sur:GSur x.forecast.surges.l
 chart:zQt x.chart
 fleet:zQw 2 x.fleet.l
 gap:0≤x.regime.gap∧x.regime.gap < 30
 crew:zQx x.crew
def zQz (x:DHarbour) (a:DCall):Prop:=(0≤a.ship∧a.ship < x.fleet.l.length)∧((a.src=0∧a.dst=3)∨(a.src=3∧a.dst=0))∧(0≤a.ready∧a.ready≤435)∧(a.ready+60≤a.due∧a.due < a.ready+460)
theorem zQA {p:DPart} (H:zQn p):zzB p=true:=by
 obtain ⟨h1,h2,h3,h4,h5⟩:=H
 simp only [List.mem_cons,List.not_mem_nil,or_false] at h3
 rw [zzB,zzz]
 simp only [In,jJ,decide_eq_true_eq,beq_iff_eq]
 rcases h3 with h3|h3|h3|h3|h3 <;> rw [h3] at h5 ⊢ <;> exact ⟨⟨⟨h1,by omega⟩,⟨by decide,by decide⟩,by decide⟩,h4,by omega⟩
theorem zQB {c:DChart} (H:zQt c):4≤c.points.l.length:=by
 obtain ⟨w,mt,d1,m1,d2,m2,d3,m3,o1,o2,_,_,_,h1,_⟩:=H
 rw [h1]
 unfold ptsG
 rw [List.length_append]
 show 4≤4+_
 omega
theorem zQC (w:Bool) (o2:Option Int):(ptsG w o2).length≤8∧∀ i,i < (ptsG w o2).length→ptOk (ptsG w o2) i=true:=by
 cases o2 with
 | none =>
  refine ⟨Nat.le_of_ble_eq_true rfl,fun i hi=>?_⟩
  match i,hi with
  | 0,_=>rfl
  | 1,_=>rfl
  | 2,_=>rfl
  | 3,_=>rfl
 | some d =>
  refine ⟨Nat.le_of_ble_eq_true rfl,fun i hi=>?_⟩
  match i,hi with
  | 0,_=>rfl
  | 1,_=>rfl
  | 2,_=>rfl
  | 3,_=>rfl
  | 4,_=>rfl
theorem zQD {n:Nat} {l:List DSegment} {i:Nat} {s:DSegment} (e:l.getD i dG=s) (h1:0≤s.a∧s.a < n∧0≤s.b∧s.b < n∧s.a ≠ s.b∧0≤s.depth∧s.depth≤3000∧1≤s.minutes∧s.minutes≤240) (h2:∀ j,j < i→zz3 (l.getD j dG) s.a s.b=false):zz8 n l i=true:=by
 rw [zz8,zz6,zz7,e,jJ,decide_eq_true_eq,decide_eq_true_eq]
 exact ⟨h1,h2⟩
theorem zQE {c:DChart} (H:zQt c):zz9 (Con.con c)=true:=by
 obtain ⟨w,mt,d1,m1,d2,m2,d3,m3,o1,o2,⟨b1,b2,b3,b4,b5,b6⟩,b7,b8,h1,h2⟩:=H
 obtain ⟨p1,p2⟩:=zQC w o2
 rw [zz9,show (Con.con c).points=c.points.l from zz0 _,show (Con.con c).segments=c.segments.l from zz1 _,h1,h2]
 simp only [jJ,decide_eq_true_eq]
 have hn:4≤(ptsG w o2).length:=by
  unfold ptsG
  rw [List.length_append]
  show 4≤4+_
  omega
 refine ⟨⟨⟨p1,?_⟩,p2⟩,fun i hi=>?_⟩
 ·cases o1 <;> cases o2 <;> exact Nat.le_of_ble_eq_true rfl
 ·cases o1 with
  | none =>
   cases o2 with
   | none =>
    match i,hi with
    | 0,_=>exact zQD rfl (by show (0:Int)≤0∧(0:Int) < _∧(0:Int)≤1∧(1:Int) < _∧(0:Int) ≠ 1∧0≤900+d1∧900+d1≤3000∧1≤10+m1∧10+m1≤240;omega) fun j hj=>absurd hj (Nat.not_lt_zero j)
    | 1,_=>exact zQD rfl (by show (0:Int)≤1∧(1:Int) < _∧(0:Int)≤2∧(2:Int) < _∧(1:Int) ≠ 2∧0≤800+d2∧800+d2≤3000∧1≤10+m2∧10+m2≤240;omega) fun j hj=>match j,hj with|0,_=>rfl
    | 2,_=>exact zQD rfl (by show (0:Int)≤2∧(2:Int) < _∧(0:Int)≤3∧(3:Int) < _∧(2:Int) ≠ 3∧0≤900+d3∧900+d3≤3000∧1≤5+m3∧5+m3≤240;omega) fun j hj=>match j,hj with|0,_=>rfl|1,_=>rfl
   | some d =>
    have hd:=b8 d rfl
    have hn5:((ptsG w (some d)).length:Int)=5:=rfl
    match i,hi with
    | 0,_=>exact zQD rfl (by show (0:Int)≤0∧(0:Int) < _∧(0:Int)≤1∧(1:Int) < _∧(0:Int) ≠ 1∧0≤900+d1∧900+d1≤3000∧1≤10+m1∧10+m1≤240;omega) fun j hj=>absurd hj (Nat.not_lt_zero j)
    | 1,_=>exact zQD rfl (by show (0:Int)≤1∧(1:Int) < _∧(0:Int)≤2∧(2:Int) < _∧(1:Int) ≠ 2∧0≤800+d2∧800+d2≤3000∧1≤10+m2∧10+m2≤240;omega) fun j hj=>match j,hj with|0,_=>rfl
    | 2,_=>exact zQD rfl (by show (0:Int)≤2∧(2:Int) < _∧(0:Int)≤3∧(3:Int) < _∧(2:Int) ≠ 3∧0≤900+d3∧900+d3≤3000∧1≤5+m3∧5+m3≤240;omega) fun j hj=>match j,hj with|0,_=>rfl|1,_=>rfl
    | 3,_=>exact zQD rfl (by show (0:Int)≤2∧(2:Int) < _∧(0:Int)≤4∧(4:Int) < _∧(2:Int) ≠ 4∧0≤800+d∧800+d≤3000∧(1:Int)≤15∧(15:Int)≤240;omega) fun j hj=>match j,hj with|0,_=>rfl|1,_=>rfl|2,_=>rfl
  | some q =>
   have hq:=b7 q rfl
   cases o2 with
   | none =>
    match i,hi with
    | 0,_=>exact zQD rfl (by show (0:Int)≤0∧(0:Int) < _∧(0:Int)≤1∧(1:Int) < _∧(0:Int) ≠ 1∧0≤900+d1∧900+d1≤3000∧1≤10+m1∧10+m1≤240;omega) fun j hj=>absurd hj (Nat.not_lt_zero j)
    | 1,_=>exact zQD rfl (by show (0:Int)≤1∧(1:Int) < _∧(0:Int)≤2∧(2:Int) < _∧(1:Int) ≠ 2∧0≤800+d2∧800+d2≤3000∧1≤10+m2∧10+m2≤240;omega) fun j hj=>match j,hj with|0,_=>rfl
    | 2,_=>exact zQD rfl (by show (0:Int)≤2∧(2:Int) < _∧(0:Int)≤3∧(3:Int) < _∧(2:Int) ≠ 3∧0≤900+d3∧900+d3≤3000∧1≤5+m3∧5+m3≤240;omega) fun j hj=>match j,hj with|0,_=>rfl|1,_=>rfl
    | 3,_=>exact zQD rfl (by show (0:Int)≤3∧(3:Int) < _∧(0:Int)≤1∧(1:Int) < _∧(3:Int) ≠ 1∧0≤700+q.1∧700+q.1≤3000∧1≤20+q.2∧20+q.2≤240;omega) fun j hj=>match j,hj with|0,_=>rfl|1,_=>rfl|2,_=>rfl
   | some d =>
    have hd:=b8 d rfl
    have hn5:((ptsG w (some d)).length:Int)=5:=rfl
    match i,hi with
    | 0,_=>exact zQD rfl (by show (0:Int)≤0∧(0:Int) < _∧(0:Int)≤1∧(1:Int) < _∧(0:Int) ≠ 1∧0≤900+d1∧900+d1≤3000∧1≤10+m1∧10+m1≤240;omega) fun j hj=>absurd hj (Nat.not_lt_zero j)
    | 1,_=>exact zQD rfl (by show (0:Int)≤1∧(1:Int) < _∧(0:Int)≤2∧(2:Int) < _∧(1:Int) ≠ 2∧0≤800+d2∧800+d2≤3000∧1≤10+m2∧10+m2≤240;omega) fun j hj=>match j,hj with|0,_=>rfl
    | 2,_=>exact zQD rfl (by show (0:Int)≤2∧(2:Int) < _∧(0:Int)≤3∧(3:Int) < _∧(2:Int) ≠ 3∧0≤900+d3∧900+d3≤3000∧1≤5+m3∧5+m3≤240;omega) fun j hj=>match j,hj with|0,_=>rfl|1,_=>rfl
    | 3,_=>exact zQD rfl (by show (0:Int)≤3∧(3:Int) < _∧(0:Int)≤1∧(1:Int) < _∧(3:Int) ≠ 1∧0≤700+q.1∧700+q.1≤3000∧1≤20+q.2∧20+q.2≤240;omega) fun j hj=>match j,hj with|0,_=>rfl|1,_=>rfl|2,_=>rfl
    | 4,_=>exact zQD rfl (by show (0:Int)≤2∧(2:Int) < _∧(0:Int)≤4∧(4:Int) < _∧(2:Int) ≠ 4∧0≤800+d∧800+d≤3000∧(1:Int)≤15∧(15:Int)≤240;omega) fun j hj=>match j,hj with|0,_=>rfl|1,_=>rfl|2,_=>rfl|3,_=>rfl
theorem zQF:∀ i,i < 3→zzI (zQu i)=true∧∀ j,j < 3→(zQu i=zQu j ↔ i=j):=by
 intro i hi
 match i,hi with
 | 0,_=>exact ⟨rfl,fun j hj=>match j,hj with|0,_=>by decide|1,_=>by decide|2,_=>by decide⟩
 | 1,_=>exact ⟨rfl,fun j hj=>match j,hj with|0,_=>by decide|1,_=>by decide|2,_=>by decide⟩
 | 2,_=>exact ⟨rfl,fun j hj=>match j,hj with|0,_=>by decide|1,_=>by decide|2,_=>by decide⟩
theorem zQG {k:Int} (hk:k≤4) {l:List DShip} (H:zQw k l):zAl l=true:=by
 obtain ⟨⟨h1,h2⟩,h3⟩:=H
 rw [zAl,jJ,decide_eq_true_eq,decide_eq_true_eq]
 refine ⟨by omega,fun i hi=>?_⟩
 obtain ⟨s1,s2,s3,s4,s5⟩:=h3 i hi
 rw [shOk,jJ,decide_eq_true_eq,zAk,s1]
 refine ⟨?_,?_⟩
 ·rw [(zQF i (by omega)).1]
  simp only [Bool.true_and,In,jJ,decide_eq_true_eq]
  omega
 ·rw [zAj,zzL]
  have hf:l.findIdx? (fun p=>decide (p.name=zQu i))=some i:=by
   rw [List.findIdx?_eq_some_iff_getElem]
   refine ⟨hi,?_,fun j hj=>?_⟩
   ·have e:l.getD i dH=l[i]:=by rw [List.getD_eq_getElem?_getD,List.getElem?_eq_getElem hi];rfl
    rw [e] at s1
    exact decide_eq_true s1
   ·have hjl:j < l.length:=by omega
    have e:l.getD j dH=l[j]:=by rw [List.getD_eq_getElem?_getD,List.getElem?_eq_getElem hjl];rfl
    have t1:=(h3 j hjl).1
    rw [e] at t1
    rw [decide_eq_true_eq,t1]
    intro h9
    have:=((zQF j (by omega)).2 i (by omega)).1 h9
    omega
  rw [hf]
theorem zQH {x:DHarbour} (H:zQy x):zAp (Con.con x)=true:=by
 obtain ⟨h1,⟨h2,h3⟩,⟨⟨h4,h5⟩,h6,h7⟩,h8,h9,h10,⟨c1,c2,c3,c4,c5⟩⟩:=H
 have e1:zzO (Con.con x.forecast.tide)=true:=by
  rw [zzO,show (Con.con x.forecast.tide).parts=x.forecast.tide.parts.l from List.map_id _,show (Con.con x.forecast.tide).mean=x.forecast.tide.mean from rfl]
  simp only [In,jJ,decide_eq_true_eq,List.all_eq_true]
  exact ⟨⟨by omega,by omega⟩,fun p hp=>zQA (h3 p hp)⟩
 have e2:zzV (Con.con x.forecast)=true:=by
  rw [zzV,show (Con.con x.forecast).tide=Con.con x.forecast.tide from rfl,e1,show (Con.con x.forecast).surges=x.forecast.surges.l from List.map_id _]
  simp only [In,Bool.true_and,jJ,decide_eq_true_eq]
  exact ⟨⟨by omega,h6⟩,h7⟩
 have e3:zAo (Con.con x.crew)=true:=by
  rw [zAo,zAn,show (Con.con x.crew).moves=x.crew.moves.l from List.map_id _]
  show (In x.crew.tugs 0 12 && In x.crew.pilots 0 12 && (In x.crew.rest 0 2880 && _))=true
  simp only [In,jJ,decide_eq_true_eq,List.all_eq_true]
  exact ⟨⟨by omega,by omega⟩,by omega,c4,fun y hy=>by have:=c5 y hy;omega⟩
 rw [zAp,show (Con.con x).forecast=Con.con x.forecast from rfl,e2,show (Con.con x).chart=Con.con x.chart from rfl,zQE h8,show (Con.con x).fleet=x.fleet.l from List.map_id _,zQG (by decide) h9,show (Con.con x).crew=Con.con x.crew from rfl,e3]
 show (true && zAm x.regime && true)=true
 rw [zAm]
 simp only [In,Bool.true_and,Bool.and_true,jJ,decide_eq_true_eq]
 omega
theorem zQI {x:DHarbour} {a:DCall} (H:zQy x) (A:zQz x a):zAI (Con.con x) a=true:=by
 have hp:=zQB H.chart
 obtain ⟨a1,a2,a3,a4⟩:=A
 rw [zAI,show (Con.con x).fleet=x.fleet.l from List.map_id _,show (Con.con x).chart.points=x.chart.points.l from zz0 _,decide_eq_true_eq]
 omega
def zQJ (x:DHarbour) (l:List DCall):Prop:=(1≤l.length∧l.length≤3)∧(∀ a ∈ l,zQz x a)∧l.Pairwise fun a b=>a.ship < b.ship
theorem zQK {x:DHarbour} {l:List DCall} (H:zQy x) (A:zQJ x l):zAP (Con.con x) l=true:=by
 obtain ⟨⟨h1,h2⟩,h3,h4⟩:=A
 rw [zAP,zQH H,Bool.true_and,jJ,decide_eq_true_eq,decide_eq_true_eq]
 refine ⟨by omega,fun i hi=>?_⟩
 have e:∀ j (hj:j < l.length),l.getD j dC=l[j]:=fun j hj=>by rw [List.getD_eq_getElem?_getD,List.getElem?_eq_getElem hj];rfl
 rw [clOk,jJ,zAO,decide_eq_true_eq,e i hi]
 refine ⟨zQI H (h3 _ (List.getElem_mem hi)),fun j hj=>?_⟩
 rw [e j (by omega)]
 have:=List.pairwise_iff_getElem.1 h4 j i (by omega) hi hj
 omega
set_option maxRecDepth 30000 in
theorem zQL (c:Sl U8) (h:Hp) (b:Nat) (H:Cu 188 c h b):Cw jV 260 [.pointer (some ⟨b,0,none⟩)] h (fun k=>k=b) fun v h'=>∃ p:DPart,(v=p.v∧zQn p)∧Cg 188 c h b h':=by
 refine zlI (fun A W=>by simp) Tryz.func260 rfl rfl (by simp)  (fun q hq=>by rw [hq];exact H.ne) fun W0 hW=>?_
 have own:W0.own b:=hW b rfl
 (first|refine zie rfl ?_|(refine zc3 ?_;first|refine zie rfl ?_|refine zc4 rfl ?_));simp only [go_sem,jq,jj,jy,jv,jk,jx]
 first|refine zyi [0,1,0,2,1] rfl ?_|refine zyh [0,1,0,2,1] rfl ?_|(refine zc3 ?_;first|refine zyi [0,1,0,2,1] rfl ?_|refine zyh [0,1,0,2,1] rfl ?_)
 refine Evs ?_
 refine zlJ (zQk c 300 _ b H (by decide)) rfl (fun q hq=>⟨by rw [hq];exact H.ne,.inr (hq ▸ own)⟩) ?_
 rintro v h1 - ⟨k1,⟨rfl,a1,b1⟩,G1⟩
 have C1:=G1.1
 refine Evs ?_
 refine fun ad cap h2 P=>?_
 try simp only [go_sem,jq,jj,jy,jv,jk,jx]
 have P':Pub h1 3 (Enc.size Int) ([744,720,1440,372,240]:List Int).length (([744,720,1440,372,240]:List Int).flatMap Enc.enc) ad cap h2:=P
 obtain ⟨R2,f2,_⟩:=P'.row
 have C2:=C1.grow P.le
 have s2:(Sl.mk ad cap [744,720,1440,372,240]:Sl Int).Ok (h2.del b):=(zOF R2 f2 C1.ne).ok (by decide) fun x hx=>by
  show I64 x
  simp only [List.mem_cons,List.not_mem_nil,or_false] at hx
  unfold I64
  omega
 refine zlJ (zQm c (Sl.mk ad cap [744,720,1440,372,240]) _ b C2 s2 (Nat.succ_pos _)) rfl (fun q hq=>⟨by rw [hq];exact C2.ne,.inr (hq ▸ own)⟩) ?_
 rintro v h3 - ⟨k3,⟨rfl,m3⟩,G3⟩
 have C3:=G3.1
 refine Evs ?_
 have hp:0 < k3:=by
  simp only [List.mem_cons,List.not_mem_nil,or_false] at m3
  omega
 first|refine zyi [0,0,0,1] rfl ?_|refine zyh [0,0,0,1] rfl ?_|(refine zc3 ?_;first|refine zyi [0,0,0,1] rfl ?_|refine zyh [0,0,0,1] rfl ?_)
 refine Evs ?_
 refine zlJ (zQk c k3 _ b C3 hp) rfl (fun q hq=>⟨by rw [hq];exact C3.ne,.inr (hq ▸ own)⟩) ?_
 rintro v h4 - ⟨k4,⟨rfl,a4,b4⟩,G4⟩
 have C4:=G4.1
 refine Evs ?_
 refine Wk ?_
 exact ⟨⟨k1,k3,k4⟩,⟨rfl,a1,b1,m3,a4,b4⟩,((G1.grow P.le).trans G3).trans G4⟩
theorem zQM {h:Hp} {p:DPart} (H:zQn p):Enc.ok h p:=by
 obtain ⟨h1,h2,h3,h4,h5⟩:=H
 simp only [List.mem_cons,List.not_mem_nil,or_false] at h3
 refine ⟨?_,?_,?_⟩ <;> unfold I64 <;> omega
set_option maxRecDepth 30000 in
theorem zQN (c:Sl U8) (h:Hp) (b:Nat) (H:Cu 188 c h b):Cw jV 236 [.pointer (some ⟨b,0,none⟩)] h (fun k=>k=b) fun v h'=>∃ t:DTide,(v=t.v∧zQo t∧Enc.ok (h'.del b) t)∧Cg 188 c h b h':=by
 refine zlI (fun A W=>by simp) Tryz.func236 rfl rfl (by simp)  (fun q hq=>by rw [hq];exact H.ne) fun W0 hW=>?_
 have own:W0.own b:=hW b rfl
 (first|refine zie rfl ?_|(refine zc3 ?_;first|refine zie rfl ?_|refine zc4 rfl ?_));simp only [go_sem,jq,jj,jy,jv,jk,jx]
 first|refine zyi [0,1] rfl ?_|refine zyh [0,1] rfl ?_|(refine zc3 ?_;first|refine zyi [0,1] rfl ?_|refine zyh [0,1] rfl ?_)
 refine Evs ?_
 refine zlJ (zQk c 300 _ b H (by decide)) rfl (fun q hq=>⟨by rw [hq];exact H.ne,.inr (hq ▸ own)⟩) ?_
 rintro v h1 - ⟨k1,⟨rfl,a1,b1⟩,G1⟩
 have C1:=G1.1
 refine Evs ?_
 first|refine zyi [0,1] rfl ?_|refine zyh [0,1] rfl ?_|(refine zc3 ?_;first|refine zyi [0,1] rfl ?_|refine zyh [0,1] rfl ?_)
 refine Evs ?_
 refine zlJ (zQk c 2 _ b C1 (by decide)) rfl (fun q hq=>⟨by rw [hq];exact C1.ne,.inr (hq ▸ own)⟩) ?_
 rintro v h2 - ⟨k2,⟨rfl,a2,b2⟩,G2⟩
 have C2:=G2.1
 refine Evs ?_
 obtain ⟨n0,hn0⟩:∃ n0:Nat,IntKind.i64.wrap (1+k2)=(n0:Int)∧1≤n0∧n0≤2:=⟨(1+k2).toNat,by rw [zjz (by omega)];omega⟩
 rw [hn0.1]
 refine zFe 1 [.v (.int .i64 k1)] [] 275 3 rfl ?_
 refine Evs ?_
 try (refine zc3 ?_)
 refine zc8 ?_
 refine zEE (ι:=List DPart × Nat × Hp) (fun i=>⟨[(0,true,.c (.v (.pointer (some ⟨b,0,none⟩)))),(2,true,.c (.p 0 0)),(3,true,.c (.p 1 0)),(4,true,.c (.v (.int .i64 i.2.1)))],[(0,.box 46 [.v (.int .i64 0),.v (.slice none 0 0)]),(1,.box 46 [.v (.int .i64 k1),.s 2]),(2,.row 275 3 i.1.length (i.1.flatMap Enc.enc))],i.2.2,3⟩)
  (fun i=>i.1.length+i.2.1=n0∧(∀ p ∈ i.1,zQn p)∧Cg 188 c h b i.2.2) (fun i=>i.2.1) ([],n0,h2) ⟨Nat.zero_add _,(fun p hp=>by cases hp),G1.trans G2⟩ [0,1,2] ?_ ?_
 ·refine Evs ?_
  repeat' first|exact rfl|exact trivial|assumption|decide|refine And.intro ?_ ?_
 rintro ⟨ps,n,hk⟩ ⟨hl,hps,Gk⟩
 simp only at hl hps Gk
 have Ck:=Gk.1
 refine Wk ?_
 refine zc9 rfl (fun hd=>?_) (fun hd=>?_)
 ·have hlt:0 < n:=by have:=of_decide_eq_true hd;omega
  refine Wk ?_
  refine zyW rfl ?_
  refine U_t [0,2,1] rfl ?_
  refine Evs ?_
  refine U_1 3 1 [1,0] rfl rfl ?_
  refine Evs ?_
  refine zlJ (zQL c _ b Ck) rfl (fun q hq=>⟨by rw [hq];exact Ck.ne,.inr (hq ▸ own)⟩) ?_
  rintro v h9 - ⟨p,⟨rfl,gp⟩,G9⟩
  have C9:=G9.1
  refine Evs ?_
  refine U_1 4 0 [1,0] rfl rfl ?_
  refine Evs ?_
  refine U_1 5 0 [] rfl rfl ?_
  refine Evs ?_
  try simp only [go_sem,jq,jj,jy,jv,jk,jx]
  refine ⟨by simp only [maxLen];omega,by omega,?_⟩
  try simp only [go_sem,jq,jj,jy,jv,jk,jx]
  refine U_t [6] rfl ?_
  refine Evs ?_
  refine U_1 7 0 [] rfl rfl ?_
  refine Evs ?_
  refine U_d ?_
  refine Wk ?_
  refine ⟨(ps ++ [p],n - 1,h9),[0,1,4],⟨(by show (ps ++ [p]).length+(n - 1)=n0;rw [List.length_append,List.length_singleton];omega),fun q hq=>?_,Gk.trans G9⟩,(by show n - 1 < n;omega),?_⟩
  ·rcases List.mem_append.1 hq with hq|hq
   ·exact hps q hq
   ·rw [List.mem_singleton.1 hq];exact gp
  have hw:IntKind.i64.wrap ((n:Int) - 1)=((n - 1:Nat):Int):=by rw [zjz (by omega)];omega
  simp only [go_sem,jq,jj,jy,jv,jk,jx,hw,List.length_append,List.flatMap_append]
  repeat' first|exact rfl|exact trivial|assumption|decide|refine And.intro ?_ ?_
 have hn:n=0:=by have:=of_decide_eq_false hd;omega
 refine zc6 ?_
 refine Evs ?_
 refine zCP 2 ps rfl rfl rfl rfl fun s h9 e9 R9 f9 le9 _=>?_
 refine Wk ?_
 have G9:=Gk.grow le9
 have hd9:=(zOF R9 f9 Ck.ne).ok (by decide) fun x hx=>zQM (hps x (by rw [← e9];exact hx))
 exact ⟨⟨k1,s⟩,⟨rfl,⟨⟨a1,b1⟩,by rw [e9];omega,by rw [e9];exact hps⟩,⟨(by show I64 k1;unfold I64;omega),hd9⟩⟩,G9⟩
structure GSt (l:List DSurge) (t:Int):Prop where
 ok:∀ i,i < l.length→zzU l i=true
 z:l=[]→t=0
 nz:l ≠ []→(l.getD 0 dS).src=0
 lt:∀ s ∈ l,s.src < t
 t0:0≤t
 t1:t≤799 * l.length
theorem zQO {l:List DSurge} {t lo hi j:Int} (H:GSt l t) (hl:l.length≤2) (h1:-40≤lo∧lo < 20) (h2:lo≤hi∧hi < lo+60) (h3:0≤j∧j < 700):GSt (l ++ [⟨t,lo,hi⟩]) (t+100+j):=by
 obtain ⟨g1,g2,g3,g4,g5,g6⟩:=H
 have ea:∀ i,i < l.length→(l ++ [(⟨t,lo,hi⟩:DSurge)]).getD i dS=l.getD i dS:=fun i hi=>by rw [List.getD_eq_getElem?_getD,List.getElem?_append_left hi,← List.getD_eq_getElem?_getD]
 have eb:(l ++ [(⟨t,lo,hi⟩:DSurge)]).getD l.length dS=⟨t,lo,hi⟩:=by simp only [List.getD_eq_getElem?_getD,List.getElem?_concat_length,Option.getD_some]
 have ln:(l ++ [(⟨t,lo,hi⟩:DSurge)]).length=l.length+1:=by rw [List.length_append];rfl
 refine ⟨fun i hi9=>?_,fun e=>by simp at e,fun _=>?_,fun s hs=>?_,by omega,by rw [ln];push_cast;omega⟩
 ·rw [ln] at hi9
  rcases Nat.lt_or_ge i l.length with hi|hi
  ·have:=g1 i hi
   rw [zzU] at this ⊢
   rw [ea i hi,ea (i - 1) (by omega)]
   exact this
  ·obtain rfl:i=l.length:=by omega
   rw [zzU,eb,zzE]
   simp only [In,jJ,decide_eq_true_eq,Bool.not_eq_true',Bool.and_eq_false_iff,decide_eq_false_iff_not]
   refine ⟨by omega,?_⟩
   rcases Nat.eq_zero_or_pos l.length with h0|h0
   ·exact .inl (by omega)
   ·refine .inr ?_
    rw [ea _ (by omega)]
    have:=g4 (l.getD (l.length - 1) dS) (by rw [List.getD_eq_getElem?_getD,List.getElem?_eq_getElem (by omega)];exact List.getElem_mem _)
    omega
 ·cases l with
  | nil=>show t=0;exact g2 rfl
  | cons y l=>rw [ea 0 (Nat.succ_pos _)];exact g3 (by simp)
 ·rcases List.mem_append.1 hs with hs|hs
  ·have:=g4 s hs;omega
  ·rw [List.mem_singleton.1 hs];show t < _;omega
theorem zQP {l:List DSurge} {t:Int} (H:GSt l t) {h:Hp}:∀ s ∈ l,Enc.ok h s:=fun s hs=>by
 obtain ⟨i,hi,rfl⟩:=List.getElem_of_mem hs
 have h1:=H.ok i hi
 rw [zzU,jJ,List.getD_eq_getElem?_getD,List.getElem?_eq_getElem hi,zzE] at h1
 simp only [In,jJ,decide_eq_true_eq,Option.getD_some] at h1
 refine ⟨?_,?_,?_⟩ <;> unfold I64 <;> omega
set_option maxRecDepth 30000 in
theorem zQQ (c:Sl U8) (h:Hp) (b:Nat) (H:Cu 188 c h b):Cw jV 185 [.pointer (some ⟨b,0,none⟩)] h (fun k=>k=b) fun v h'=>∃ f:DForecast,(v=f.v∧zQo f.tide∧GSur f.surges.l∧Enc.ok (h'.del b) f)∧Cg 188 c h b h':=by
 refine zlI (fun A W=>by simp) Tryz.func185 rfl rfl (by simp)  (fun q hq=>by rw [hq];exact H.ne) fun W0 hW=>?_
 have own:W0.own b:=hW b rfl
 (first|refine zie rfl ?_|refine zc4 rfl ?_|(refine zc3 ?_;first|refine zie rfl ?_|refine zc4 rfl ?_));simp only [go_sem,jq,jj,jy,jv,jk,jx]
 first|refine zyi [0,1] rfl ?_|refine zyh [0,1] rfl ?_|(refine zc3 ?_;first|refine zyi [0,1] rfl ?_|refine zyh [0,1] rfl ?_)
 refine Evs ?_
 refine zlJ (zQN c _ b H) rfl (fun q hq=>⟨by rw [hq];exact H.ne,.inr (hq ▸ own)⟩) ?_
 rintro v h1 - ⟨t,⟨rfl,gt,okt⟩,G1⟩
 have C1:=G1.1
 refine Evs ?_
 (first|refine zie rfl ?_|refine zc4 rfl ?_|(refine zc3 ?_;first|refine zie rfl ?_|refine zc4 rfl ?_));simp only [go_sem,jq,jj,jy,jv,jk,jx]
 first|refine zyi [0,1] rfl ?_|refine zyh [0,1] rfl ?_|(refine zc3 ?_;first|refine zyi [0,1] rfl ?_|refine zyh [0,1] rfl ?_)
 refine Evs ?_
 refine zlJ (zQk c 3 _ b C1 (by decide)) rfl (fun q hq=>⟨by rw [hq];exact C1.ne,.inr (hq ▸ own)⟩) ?_
 rintro v h2 - ⟨k2,⟨rfl,a2,b2⟩,G2⟩
 have C2:=G2.1
 refine Evs ?_
 obtain ⟨n0,hn0⟩:∃ n0:Nat,IntKind.i64.wrap (1+k2)=(n0:Int)∧1≤n0∧n0≤3:=⟨(1+k2).toNat,by rw [zjz (by omega)];omega⟩
 rw [hn0.1]
 refine zFe 1 [.v (.int .i64 t.mean),.v t.parts.val] [] 225 3 rfl ?_
 refine Evs ?_
 try (refine zc3 ?_)
 refine zc8 ?_
 refine zEE (ι:=List DSurge × Nat × Int × Hp) (fun i=>⟨[(0,true,.c (.v (.pointer (some ⟨b,0,none⟩)))),(2,true,.c (.p 0 0)),(3,true,.c (.p 1 0)),(4,true,.c (.v (.int .i64 i.2.2.1))),(5,true,.c (.v (.int .i64 i.2.1)))],[(0,.box 49 [.v (.int .i64 0),.v (.slice none 0 0),.v (.slice none 0 0)]),(1,.box 49 [.v (.int .i64 t.mean),.v t.parts.val,.s 2]),(2,.row 225 3 i.1.length (i.1.flatMap Enc.enc))],i.2.2.2,3⟩)
  (fun i=>i.1.length+i.2.1=n0∧GSt i.1 i.2.2.1∧Cg 188 c h b i.2.2.2∧(h1.del b).le (i.2.2.2.del b)) (fun i=>i.2.1) ([],n0,0,h2) ⟨Nat.zero_add _,⟨fun i hi=>absurd hi (Nat.not_lt_zero i),fun _=>rfl,fun e=>(e rfl).elim,fun s hs=>(by cases hs),Int.le_refl _,Int.le_refl _⟩,G1.trans G2,G2.2⟩ [0,1,2] ?_ ?_
 ·refine Evs ?_
  repeat' first|exact rfl|exact trivial|assumption|decide|refine And.intro ?_ ?_
 rintro ⟨ls,n,t4,hk⟩ ⟨hl,hg,Gk,lek⟩
 simp only at hl hg Gk lek
 have Ck:=Gk.1
 have ht0:=hg.t0
 have ht1:=hg.t1
 have hl3:ls.length≤3:=by omega
 refine Wk ?_
 refine zc9 rfl (fun hd=>?_) (fun hd=>?_)
 ·have hlt:0 < n:=by have:=of_decide_eq_true hd;omega
  repeat' first|refine zc8 ?_|(refine zc5 ?_;simp only [go_sem,jq,jj,jy,jv,jk,jx])|refine zc3 ?_
  first|refine zyi [0,1] rfl ?_|refine zyh [0,1] rfl ?_|(refine zc3 ?_;first|refine zyi [0,1] rfl ?_|refine zyh [0,1] rfl ?_)
  refine Evs ?_
  refine zlJ (zQk c 60 _ b Ck (by decide)) rfl (fun q hq=>⟨by rw [hq];exact Ck.ne,.inr (hq ▸ own)⟩) ?_
  rintro v h8 - ⟨k8,⟨rfl,a8,b8⟩,G8⟩
  have C8:=G8.1
  refine Evs ?_
  rw [zjz (n:=k8 - 40) (by omega)]
  obtain ⟨wlow,hwl⟩:∃ wlow:Int,k8 - 40=wlow:=⟨_,rfl⟩
  rw [hwl]
  repeat' first|refine zc8 ?_|(refine zc5 ?_;simp only [go_sem,jq,jj,jy,jv,jk,jx])|refine zc3 ?_
  refine zyW rfl ?_
  refine U_t [0,2,3,4,5,1] rfl ?_
  refine Evs ?_
  refine U_1 6 1 [1,0] rfl rfl ?_
  refine Evs ?_
  refine zlJ (zQk c 60 _ b C8 (by decide)) rfl (fun q hq=>⟨by rw [hq];exact C8.ne,.inr (hq ▸ own)⟩) ?_
  rintro v h9 - ⟨k9,⟨rfl,a9,b9⟩,G9⟩
  have C9:=G9.1
  refine Evs ?_
  refine U_t [7] rfl ?_
  refine Evs ?_
  refine U_1 8 0 [1,0] rfl rfl ?_
  refine Evs ?_
  refine U_1 9 0 [1,0] rfl rfl ?_
  refine Evs ?_
  refine U_1 10 0 [] rfl rfl ?_
  refine Evs ?_
  try simp only [go_sem,jq,jj,jy,jv,jk,jx]
  refine ⟨by simp only [maxLen];omega,by omega,?_⟩
  try simp only [go_sem,jq,jj,jy,jv,jk,jx]
  refine U_t [11] rfl ?_
  refine Evs ?_
  refine U_1 12 0 [] rfl rfl ?_
  refine Evs ?_
  refine U_d ?_
  rw [zjz (n:=wlow+k9) (by omega)]
  repeat' first|refine zc8 ?_|(refine zc5 ?_;simp only [go_sem,jq,jj,jy,jv,jk,jx])|refine zc3 ?_
  first|refine zyi [0,0,0,1] rfl ?_|refine zyh [0,0,0,1] rfl ?_|(refine zc3 ?_;first|refine zyi [0,0,0,1] rfl ?_|refine zyh [0,0,0,1] rfl ?_)
  refine Evs ?_
  refine zlJ (zQk c 700 _ b C9 (by decide)) rfl (fun q hq=>⟨by rw [hq];exact C9.ne,.inr (hq ▸ own)⟩) ?_
  rintro v h10 - ⟨k10,⟨rfl,a10,b10⟩,G10⟩
  have C10:=G10.1
  refine Evs ?_
  rw [zjz (n:=t4+100) (by omega),zjz (n:=t4+100+k10) (by omega)]
  repeat' first|refine zc8 ?_|(refine zc5 ?_;simp only [go_sem,jq,jj,jy,jv,jk,jx])|refine zc3 ?_
  (first|refine zie rfl ?_|refine zc4 rfl ?_|(refine zc3 ?_;first|refine zie rfl ?_|refine zc4 rfl ?_));simp only [go_sem,jq,jj,jy,jv,jk,jx]
  have hw:IntKind.i64.wrap ((n:Int) - 1)=((n - 1:Nat):Int):=by rw [zjz (by omega)];omega
  refine ⟨(ls ++ [⟨t4,wlow,wlow+k9⟩],n - 1,t4+100+k10,h10),[0,1,4],⟨?_,?_,?_,?_⟩,(by show n - 1 < n;omega),?_⟩
  ·show (ls ++ [_]).length+(n - 1)=n0
   rw [List.length_append,List.length_singleton];omega
  ·exact zQO hg (by omega) (by omega) (by omega) (by omega)
  ·exact ((Gk.trans G8).trans G9).trans G10
  ·exact Hp.le_trans (Hp.le_trans (Hp.le_trans lek G8.2) G9.2) G10.2
  simp only [go_sem,jq,jj,jy,jv,jk,jx,hw,List.length_append,List.flatMap_append]
  repeat' first|exact rfl|exact trivial|assumption|decide|refine And.intro ?_ ?_
 have hn:n=0:=by have:=of_decide_eq_false hd;omega
 refine zc6 ?_
 refine Evs ?_
 refine zCP 2 ls rfl rfl rfl rfl fun s h9 e9 R9 f9 le9 _=>?_
 refine Wk ?_
 have G9:=Gk.grow le9
 have hd9:=(zOF R9 f9 Ck.ne).ok (by decide) (zQP (by rw [e9];exact hg))
 refine ⟨⟨t,s⟩,⟨rfl,gt,⟨?_,?_,?_⟩,⟨Enc.mono (Hp.le_trans lek (zOE le9)) okt,hd9⟩⟩,G9⟩
 ·rw [e9];omega
 ·rw [e9];exact hg.nz (fun e=>by rw [e,List.length_nil] at hl;omega)
 ·rw [e9];exact hg.ok
theorem zQR {h:Hp} {w:Bool} {o2:Option Int}:∀ x ∈ ptsG w o2,Enc.ok h x:=fun x hx=>by
 have key:x.name.size≤4:=by
  unfold ptsG at hx
  cases o2 with
  | none =>
   simp only [List.append_nil,List.mem_cons,List.not_mem_nil,or_false] at hx
   rcases hx with rfl|rfl|rfl|rfl <;> exact Nat.le_of_ble_eq_true rfl
  | some d =>
   simp only [List.mem_append,List.mem_cons,List.not_mem_nil,or_false] at hx
   rcases hx with (rfl|rfl|rfl|rfl)|rfl <;> exact Nat.le_of_ble_eq_true rfl
 show x.name.size≤maxLen
 simp only [maxLen]
 omega
theorem zQS {d1 m1 d2 m2 d3 m3:Int} {mt:Bool} (o1:Option (Int × Int)) (o2:Option Int):(zQs d1 m1 d2 m2 d3 m3 mt o1 o2).length≤5:=by
 unfold zQs
 cases o1 <;> cases o2 <;> exact Nat.le_of_ble_eq_true rfl
theorem zQT {d1 m1 d2 m2 d3 m3:Int} {mt:Bool} {o1:Option (Int × Int)} {d:Int}:zQs d1 m1 d2 m2 d3 m3 mt o1 (some d)=zQs d1 m1 d2 m2 d3 m3 mt o1 none ++ [⟨2,4,800+d,15,false⟩]:=by
 unfold zQs
 rw [List.append_nil]
theorem zQU {h:Hp} {d1 m1 d2 m2 d3 m3:Int} {mt:Bool} {o1:Option (Int × Int)} {o2:Option Int} (b1:0≤d1∧d1 < 300) (b2:0≤m1∧m1 < 40) (b3:0≤d2∧d2 < 300) (b4:0≤m2∧m2 < 30) (b5:0≤d3∧d3 < 200) (b6:0≤m3∧m3 < 20)
  (b7:∀ q,o1=some q→(0≤q.1∧q.1 < 300)∧(0≤q.2∧q.2 < 30)) (b8:∀ d,o2=some d→0≤d∧d < 300):∀ x ∈ zQs d1 m1 d2 m2 d3 m3 mt o1 o2,Enc.ok h x:=fun x hx=>by
 have key:(0≤x.a∧x.a≤9)∧(0≤x.b∧x.b≤9)∧(0≤x.depth∧x.depth≤3000)∧0≤x.minutes∧x.minutes≤300:=by
  unfold zQs at hx
  rw [List.mem_append,List.mem_append] at hx
  rcases hx with (hx|hx)|hx
  ·simp only [List.mem_cons,List.not_mem_nil,or_false] at hx
   rcases hx with rfl|rfl|rfl <;> refine ⟨⟨?_,?_⟩,⟨?_,?_⟩,⟨?_,?_⟩,?_,?_⟩ <;> dsimp only <;> omega
  ·cases o1 with
   | none=>cases hx
   | some q =>
    have:=b7 q rfl
    rw [List.mem_singleton] at hx
    subst hx
    refine ⟨⟨?_,?_⟩,⟨?_,?_⟩,⟨?_,?_⟩,?_,?_⟩ <;> dsimp only <;> omega
  ·cases o2 with
   | none=>cases hx
   | some d =>
    have:=b8 d rfl
    rw [List.mem_singleton] at hx
    subst hx
    refine ⟨⟨?_,?_⟩,⟨?_,?_⟩,⟨?_,?_⟩,?_,?_⟩ <;> dsimp only <;> omega
 obtain ⟨k1,k2,k3,k4⟩:=key
 refine ⟨?_,?_,?_,?_⟩ <;> unfold I64 <;> omega
set_option maxRecDepth 30000 in
theorem zQV (c:Sl U8) (h:Hp) (b:Nat) (H:Cu 188 c h b):Cw jV 186 [.pointer (some ⟨b,0,none⟩)] h (fun k=>k=b) fun v h'=>∃ x:DChart,(v=x.v∧zQt x∧Enc.ok (h'.del b) x)∧Cg 188 c h b h':=by
 refine zlI (fun A W=>by simp) Tryz.func186 rfl rfl (by simp)  (fun q hq=>by rw [hq];exact H.ne) fun W0 hW=>?_
 have own:W0.own b:=hW b rfl
 (first|refine zie rfl ?_|refine zc4 rfl ?_|(refine zc3 ?_;first|refine zie rfl ?_|refine zc4 rfl ?_));simp only [go_sem,jq,jj,jy,jv,jk,jx]
 first|refine zyi [0,0,0,1,0,0,2] rfl ?_|refine zyh [0,0,0,1,0,0,2] rfl ?_|(refine zc3 ?_;first|refine zyi [0,0,0,1,0,0,2] rfl ?_|refine zyh [0,0,0,1,0,0,2] rfl ?_)
 refine Evs ?_
 refine zlJ (zQl c 2 _ b H (by decide)) rfl (fun q hq=>⟨by rw [hq];exact H.ne,.inr (hq ▸ own)⟩) ?_
 rintro v h1 - ⟨w,rfl,G1⟩
 have C1:=G1.1
 refine Evs ?_
 refine fun ad cap h2 P=>?_
 try simp only [go_sem,jq,jj,jy,jv,jk,jx]
 have P':Pub h1 228 (Enc.size DPoint) (ptsG w none).length ((ptsG w none).flatMap Enc.enc) ad cap h2:=P
 obtain ⟨R2,f2,_⟩:=P'.row
 have C2:=C1.grow P.le
 have G2:Cg 188 c h b h2:=G1.grow P.le
 have fr:∀ g,ad=some ⟨g,0,none⟩→h g=none∧g ≠ b:=fun g hg=>G1.fresh (f2 g hg)
 have Rd:=zOF R2 f2 C1.ne
 first|refine zyi [0,1,0,0,1,0,0,0,1,0,0,1,0,0,1,0,0,1,0,0,1] rfl ?_|refine zyh [0,1,0,0,1,0,0,0,1,0,0,1,0,0,1,0,0,1,0,0,1] rfl ?_|(refine zc3 ?_;first|refine zyi [0,1,0,0,1,0,0,0,1,0,0,1,0,0,1,0,0,1,0,0,1] rfl ?_|refine zyh [0,1,0,0,1,0,0,0,1,0,0,1,0,0,1,0,0,1,0,0,1] rfl ?_)
 refine Evs ?_
 refine zlJ (zQk c 300 _ b C2 (by decide)) rfl (fun q hq=>⟨by rw [hq];exact C2.ne,.inr (hq ▸ own)⟩) ?_
 rintro v h3 - ⟨k3,⟨rfl,a3,b3⟩,G3⟩
 have C3:=G3.1
 refine Evs ?_
 refine zlJ (zQk c 40 _ b C3 (by decide)) rfl (fun q hq=>⟨by rw [hq];exact C3.ne,.inr (hq ▸ own)⟩) ?_
 rintro v h4 - ⟨k4,⟨rfl,a4,b4⟩,G4⟩
 have C4:=G4.1
 refine Evs ?_
 refine zlJ (zQk c 300 _ b C4 (by decide)) rfl (fun q hq=>⟨by rw [hq];exact C4.ne,.inr (hq ▸ own)⟩) ?_
 rintro v h5 - ⟨k5,⟨rfl,a5,b5⟩,G5⟩
 have C5:=G5.1
 refine Evs ?_
 refine zlJ (zQk c 30 _ b C5 (by decide)) rfl (fun q hq=>⟨by rw [hq];exact C5.ne,.inr (hq ▸ own)⟩) ?_
 rintro v h6 - ⟨k6,⟨rfl,a6,b6⟩,G6⟩
 have C6:=G6.1
 refine Evs ?_
 refine zlJ (zQl c 2 _ b C6 (by decide)) rfl (fun q hq=>⟨by rw [hq];exact C6.ne,.inr (hq ▸ own)⟩) ?_
 rintro v h7 - ⟨mt,rfl,G7⟩
 have C7:=G7.1
 refine Evs ?_
 refine zlJ (zQk c 200 _ b C7 (by decide)) rfl (fun q hq=>⟨by rw [hq];exact C7.ne,.inr (hq ▸ own)⟩) ?_
 rintro v h8 - ⟨k8,⟨rfl,a8,b8⟩,G8⟩
 have C8:=G8.1
 refine Evs ?_
 refine zlJ (zQk c 20 _ b C8 (by decide)) rfl (fun q hq=>⟨by rw [hq];exact C8.ne,.inr (hq ▸ own)⟩) ?_
 rintro v h9 - ⟨k9,⟨rfl,a9,b9⟩,G9⟩
 have C9:=G9.1
 refine Evs ?_
 rw [zjz (n:=900+k3) (by omega),zjz (n:=10+k4) (by omega),zjz (n:=800+k5) (by omega),zjz (n:=10+k6) (by omega),zjz (n:=900+k8) (by omega),zjz (n:=5+k9) (by omega)]
 first|refine zyi [0,1] rfl ?_|refine zyh [0,1] rfl ?_|(refine zc3 ?_;first|refine zyi [0,1] rfl ?_|refine zyh [0,1] rfl ?_)
 refine Evs ?_
 refine zlJ (zQl c 3 _ b C9 (by decide)) rfl (fun q hq=>⟨by rw [hq];exact C9.ne,.inr (hq ▸ own)⟩) ?_
 rintro v h10 - ⟨q10,rfl,G10⟩
 have C10:=G10.1
 refine Evs ?_
 have G10':Cg 188 c h2 b h10:=((((((G3.trans G4).trans G5).trans G6).trans G7).trans G8).trans G9).trans G10
 repeat' first|refine zc8 ?_|(refine zc5 ?_;simp only [go_sem,jq,jj,jy,jv,jk,jx])|refine zc3 ?_
 refine zED (ι:=Option (Int × Int) × Hp) (fun i=>⟨[(0,true,.c (.v (.pointer (some ⟨b,0,none⟩)))),(2,true,.c (.p 0 0)),(3,true,.c (.p 1 0))],[(0,.box 53 [.v (.slice none 0 0),.v (.slice none 0 0)]),(1,.box 53 [.v (.slice ad 4 cap),.s 2]),(2,.row 231 5 (zQs k3 k4 k5 k6 k8 k9 mt i.1 none).length ((zQs k3 k4 k5 k6 k8 k9 mt i.1 none).flatMap Enc.enc))],i.2,3⟩)
  (fun i=>(∀ q,i.1=some q→(0≤q.1∧q.1 < 300)∧(0≤q.2∧q.2 < 30))∧Cg 188 c h2 b i.2) (fun _=>rfl) ?_ ?_
 ·refine zc9 rfl (fun hq=>?_) (fun hq=>?_)
  ·repeat' first|refine zc8 ?_|(refine zc5 ?_;simp only [go_sem,jq,jj,jy,jv,jk,jx])|refine zc3 ?_
   refine zyW rfl ?_
   refine U_t [0,2,5,1] rfl ?_
   refine Evs ?_
   refine U_1 3 1 [1,0] rfl rfl ?_
   refine Evs ?_
   refine zlJ (zQk c 300 _ b C10 (by decide)) rfl (fun q hq=>⟨by rw [hq];exact C10.ne,.inr (hq ▸ own)⟩) ?_
   rintro v h11 - ⟨k11,⟨rfl,a11,b11⟩,G11⟩
   have C11:=G11.1
   refine Evs ?_
   refine U_t [4] rfl ?_
   refine Evs ?_
   refine U_1 6 1 [4,1,0] rfl rfl ?_
   refine Evs ?_
   refine zlJ (zQk c 30 _ b C11 (by decide)) rfl (fun q hq=>⟨by rw [hq];exact C11.ne,.inr (hq ▸ own)⟩) ?_
   rintro v h12 - ⟨k12,⟨rfl,a12,b12⟩,G12⟩
   have C12:=G12.1
   refine Evs ?_
   refine U_t [7] rfl ?_
   refine Evs ?_
   refine U_1 8 0 [1,0] rfl rfl ?_
   refine Evs ?_
   refine U_1 9 0 [1,0] rfl rfl ?_
   refine Evs ?_
   refine U_1 10 0 [] rfl rfl ?_
   refine Evs ?_
   refine ⟨by simp only [maxLen];omega,?_⟩
   try simp only [go_sem,jq,jj,jy,jv,jk,jx]
   refine U_t [11] rfl ?_
   refine Evs ?_
   refine U_1 12 0 [] rfl rfl ?_
   refine Evs ?_
   refine U_d ?_
   rw [zjz (n:=700+k11) (by omega),zjz (n:=20+k12) (by omega)]
   refine ⟨(some (k11,k12),h12),[0,2,5],⟨fun q hq=>?_,(G10'.trans G11).trans G12⟩,?_⟩
   ·rw [← Option.some.inj hq];exact ⟨⟨a11,b11⟩,a12,b12⟩
   refine Evs ?_
   repeat' first|exact rfl|exact trivial|assumption|decide|refine And.intro ?_ ?_
  ·repeat' first|refine zc8 ?_|(refine zc5 ?_;simp only [go_sem,jq,jj,jy,jv,jk,jx])|refine zc3 ?_
   refine ⟨(none,h10),[0,2,3],⟨fun q hq=>(by cases hq),G10'⟩,?_⟩
   refine Evs ?_
   repeat' first|exact rfl|exact trivial|assumption|decide|refine And.intro ?_ ?_
 rintro ⟨o1,hm⟩ ⟨bo1,Gm⟩
 simp only at bo1 Gm
 have Cm:=Gm.1
 repeat' first|refine zc8 ?_|(refine zc5 ?_;simp only [go_sem,jq,jj,jy,jv,jk,jx])|refine zc3 ?_
 first|refine zyi [0,1] rfl ?_|refine zyh [0,1] rfl ?_|(refine zc3 ?_;first|refine zyi [0,1] rfl ?_|refine zyh [0,1] rfl ?_)
 refine Evs ?_
 refine zlJ (zQl c 3 _ b Cm (by decide)) rfl (fun q hq=>⟨by rw [hq];exact Cm.ne,.inr (hq ▸ own)⟩) ?_
 rintro v h13 - ⟨q13,rfl,G13⟩
 have C13:=G13.1
 refine Evs ?_
 repeat' first|refine zc8 ?_|(refine zc5 ?_;simp only [go_sem,jq,jj,jy,jv,jk,jx])|refine zc3 ?_
 refine zc9 rfl (fun hq=>?_) (fun hq=>?_)
 ·repeat' first|refine zc8 ?_|(refine zc5 ?_;simp only [go_sem,jq,jj,jy,jv,jk,jx])|refine zc3 ?_
  first|refine zyi [0,0,0,0,3] rfl ?_|refine zyh [0,0,0,0,3] rfl ?_|(refine zc3 ?_;first|refine zyi [0,0,0,0,3] rfl ?_|refine zyh [0,0,0,0,3] rfl ?_)
  refine Evs ?_
  have Rm:RowAt 228 h13 (Sl.mk ad cap (ptsG w none)):=zOG (zOG Rd (Gm.trans G13).2) zOB
  refine zCQ (s:=Sl.mk ad cap (ptsG w none)) rfl Rm (fun g hg=>.inl (fr g hg).1) ?_
  refine Evs ?_
  have hpl:(ptsG w none).length=4:=rfl
  refine ⟨rfl,by rw [hpl];simp only [maxLen];omega,by rw [hpl];omega,fun ad2 cap2 h14 P14=>?_⟩
  obtain ⟨G14,hn14⟩:=Cg.adopt (G2.trans (Gm.trans G13)) H.1 Rm fr P14
  have C14:=G14.1
  have P14':Pub (zCO h13 (Sl.mk ad cap (ptsG w none))) 228 (Enc.size DPoint) (ptsG w (some 0)).length ((ptsG w (some 0)).flatMap Enc.enc) ad2 cap2 h14:=P14
  obtain ⟨R14,f14,_⟩:=P14'.row
  have Rd14:=zOF R14 f14 hn14
  repeat' first|refine zc8 ?_|(refine zc5 ?_;simp only [go_sem,jq,jj,jy,jv,jk,jx])|refine zc3 ?_
  refine zyW rfl ?_
  refine U_t [0,2,1] rfl ?_
  refine Evs ?_
  refine U_1 3 1 [1,0] rfl rfl ?_
  refine Evs ?_
  refine zlJ (zQk c 300 _ b C14 (by decide)) rfl (fun q hq=>⟨by rw [hq];exact C14.ne,.inr (hq ▸ own)⟩) ?_
  rintro v h15 - ⟨k15,⟨rfl,a15,b15⟩,G15⟩
  have C15:=G15.1
  refine Evs ?_
  refine U_t [4] rfl ?_
  refine Evs ?_
  refine U_1 5 0 [1,0] rfl rfl ?_
  refine Evs ?_
  refine U_1 6 0 [1,0] rfl rfl ?_
  refine Evs ?_
  refine U_1 7 0 [] rfl rfl ?_
  refine Evs ?_
  refine ⟨by have:=@zQS k3 k4 k5 k6 k8 k9 mt o1 none;simp only [maxLen];omega,by have:=@zQS k3 k4 k5 k6 k8 k9 mt o1 none;omega,?_⟩
  try simp only [go_sem,jq,jj,jy,jv,jk,jx]
  refine U_t [8] rfl ?_
  refine Evs ?_
  refine U_1 9 0 [] rfl rfl ?_
  refine Evs ?_
  refine U_d ?_
  rw [zjz (n:=800+k15) (by omega)]
  repeat' first|refine zc8 ?_|(refine zc5 ?_;simp only [go_sem,jq,jj,jy,jv,jk,jx])|refine zc3 ?_
  (first|refine zie rfl ?_|refine zc4 rfl ?_|(refine zc3 ?_;first|refine zie rfl ?_|refine zc4 rfl ?_));simp only [go_sem,jq,jj,jy,jv,jk,jx]
  refine zCP 7 (zQs k3 k4 k5 k6 k8 k9 mt o1 (some k15)) rfl rfl ?_ ?_ fun s h20 e20 R20 f20 le20 _=>?_
  ·rw [zQT,List.length_append];rfl
  ·rw [zQT,List.flatMap_append];rfl
  refine Wk ?_
  have G20:=(G14.trans G15).grow le20
  have k1:(Sl.mk ad2 cap2 (ptsG w (some 0))).Ok (h20.del b):=(zOG Rd14 (G15.grow le20).2).ok (by decide) (fun x hx=>zQR (w:=w) (o2:=some 0) x hx)
  have k2:s.Ok (h20.del b):=(zOF R20 f20 C15.ne).ok (by decide) (by rw [e20];exact zQU ⟨a3,b3⟩ ⟨a4,b4⟩ ⟨a5,b5⟩ ⟨a6,b6⟩ ⟨a8,b8⟩ ⟨a9,b9⟩ bo1 (fun d hd=>by cases hd;exact ⟨a15,b15⟩))
  exact ⟨⟨Sl.mk ad2 cap2 (ptsG w (some 0)),s⟩,⟨rfl,⟨w,mt,k3,k4,k5,k6,k8,k9,o1,some k15,⟨⟨a3,b3⟩,⟨a4,b4⟩,⟨a5,b5⟩,⟨a6,b6⟩,⟨a8,b8⟩,⟨a9,b9⟩⟩,bo1,(fun d hd=>by cases hd;exact ⟨a15,b15⟩),rfl,e20⟩,⟨k1,k2⟩⟩,G20⟩
 repeat' first|refine zc8 ?_|(refine zc5 ?_;simp only [go_sem,jq,jj,jy,jv,jk,jx])|refine zc3 ?_
 (first|refine zie rfl ?_|refine zc4 rfl ?_|(refine zc3 ?_;first|refine zie rfl ?_|refine zc4 rfl ?_));simp only [go_sem,jq,jj,jy,jv,jk,jx]
 refine zCP 2 (zQs k3 k4 k5 k6 k8 k9 mt o1 none) rfl rfl rfl rfl fun s h20 e20 R20 f20 le20 _=>?_
 refine Wk ?_
 have G20:=(Gm.trans G13).grow le20
 have k1:(Sl.mk ad cap (ptsG w none)).Ok (h20.del b):=(zOG Rd G20.2).ok (by decide) (fun x hx=>zQR (w:=w) (o2:=none) x hx)
 have k2:s.Ok (h20.del b):=(zOF R20 f20 C13.ne).ok (by decide) (by rw [e20];exact zQU ⟨a3,b3⟩ ⟨a4,b4⟩ ⟨a5,b5⟩ ⟨a6,b6⟩ ⟨a8,b8⟩ ⟨a9,b9⟩ bo1 (fun d hd=>by cases hd))
 exact ⟨⟨Sl.mk ad cap (ptsG w none),s⟩,⟨rfl,⟨w,mt,k3,k4,k5,k6,k8,k9,o1,none,⟨⟨a3,b3⟩,⟨a4,b4⟩,⟨a5,b5⟩,⟨a6,b6⟩,⟨a8,b8⟩,⟨a9,b9⟩⟩,bo1,(fun d hd=>by cases hd),rfl,e20⟩,⟨k1,k2⟩⟩,⟨G20.1,Hp.le_trans G2.2 G20.2⟩⟩
def dig (i:Nat):ByteArray:=⟨#[UInt8.ofNat (48+i)]⟩
theorem zQW (i:Nat) (h:Hp) (hi:i≤9):Ct jV 261 [.int .i64 i] h fun v h'=>v=.string (dig i)∧h'=h:=by
 refine Ct.forget ?_
 refine zdn (fun A W=>by simp) Tryz.func261 rfl rfl (by simp) fun W0=>?_
 refine Wk ?_
 refine zc9 rfl (fun hc=>?_) (fun hc=>?_)
 ·have:=of_decide_eq_true hc;omega
 refine Wk ?_
 refine zde (ι:=Unit) (fun _=>⟨[(0,true,.c (.v (.int .i64 (i:Int)))),(3,true,.c (.v (.string ByteArray.empty)))],[],h,0⟩) (fun _=>True) (fun _=>0) () trivial ?_ ?_
 ·refine Evs ?_
  repeat' first|exact rfl|exact trivial|assumption|decide|refine And.intro ?_ ?_
 rintro _ _
 refine Wk ?_
 refine zc9 rfl (fun hc=>?_) (fun hc=>?_)
 ·have:=of_decide_eq_true hc;omega
 refine zc6 ?_
 refine Evs ?_
 have hw1:IntKind.i64.wrap (48+(i:Int))=((48+i:Nat):Int):=by rw [zjz (by omega)];omega
 have hw2:IntKind.u8.wrap ((48+i:Nat):Int)=((48+i:Nat):Int):=by
  show (((48+i:Nat):Int)) % 256=_
  omega
 first|refine zyi [0,0,0,0,4] rfl ?_|refine zyh [0,0,0,0,4] rfl ?_|(refine zc3 ?_;first|refine zyi [0,0,0,0,4] rfl ?_|refine zyh [0,0,0,0,4] rfl ?_)
 simp only [go_sem,jq,jj,jy,jv,jk,jx,hw1,hw2]
 try (refine ⟨by decide,?_⟩)
 refine zyj (ns:=[((48+i:Nat):Int)]) rfl rfl Tryz.underlying76 Tryz.underlying5 Tryz.underlying9 ?_
 refine Evs ?_
 have e:bstr [((48+i:Nat):Int)] ++ ByteArray.empty=dig i:=by
  rw [ByteArray.append_empty];rfl
 rw [e]
 refine ⟨by show 1+0≤_;omega,?_⟩
 exact Wk0
theorem zQX {i:Nat}:(⟨#[115]⟩:ByteArray) ++ dig i=zQu i:=by
 ext1
 rw [ByteArray.data_append]
 rfl
theorem zQY {h:Hp} {k:Int} {i:Nat} {s:DShip} (hk:k≤10) (H:zQv k i s):Enc.ok h s:=by
 obtain ⟨h1,h2,h3,h4,h5⟩:=H
 refine ⟨?_,?_,?_,?_,?_⟩
 ·show s.name.size≤maxLen
  rw [h1]
  show 2≤maxLen
  simp only [maxLen];omega
 all_goals unfold I64;omega
set_option maxRecDepth 30000 in
theorem zQZ (i:Nat) (hi:i≤9) (c:Sl U8) (h:Hp) (b:Nat) (H:Cu 188 c h b):Cw jV 237 [.pointer (some ⟨b,0,none⟩),.int .i64 i] h (fun k=>k=b) fun v h'=>∃ s:DShip,(v=s.v∧zQv 3 i s)∧Cg 188 c h b h':=by
 refine zlI (fun A W=>by simp) Tryz.func237 rfl rfl (by simp)  (fun q hq=>by rw [hq];exact H.ne) fun W0 hW=>?_
 have own:W0.own b:=hW b rfl
 (first|refine zie rfl ?_|refine zc4 rfl ?_|(refine zc3 ?_;first|refine zie rfl ?_|refine zc4 rfl ?_));simp only [go_sem,jq,jj,jy,jv,jk,jx]
 first|refine zyi [0,0,0,0,1,0,0,1,0,0,1,0,1,0,1] rfl ?_|refine zyh [0,0,0,0,1,0,0,1,0,0,1,0,1,0,1] rfl ?_|(refine zc3 ?_;first|refine zyi [0,0,0,0,1,0,0,1,0,0,1,0,1,0,1] rfl ?_|refine zyh [0,0,0,0,1,0,0,1,0,0,1,0,1,0,1] rfl ?_)
 refine Evs ?_
 refine zhF (fun _=>zQW i _ hi) ?_
 refine Evs ?_
 rw [zQX]
 refine ⟨by show 1+1≤_;omega,?_⟩
 refine zlJ (zQk c 200 _ b H (by decide)) rfl (fun q hq=>⟨by rw [hq];exact H.ne,.inr (hq ▸ own)⟩) ?_
 rintro v h1 - ⟨k1,⟨rfl,a1,b1⟩,G1⟩
 have C1:=G1.1
 refine Evs ?_
 refine zlJ (zQk c 500 _ b C1 (by decide)) rfl (fun q hq=>⟨by rw [hq];exact C1.ne,.inr (hq ▸ own)⟩) ?_
 rintro v h2 - ⟨k2,⟨rfl,a2,b2⟩,G2⟩
 have C2:=G2.1
 refine Evs ?_
 refine zlJ (zQk c 4 _ b C2 (by decide)) rfl (fun q hq=>⟨by rw [hq];exact C2.ne,.inr (hq ▸ own)⟩) ?_
 rintro v h3 - ⟨k3,⟨rfl,a3,b3⟩,G3⟩
 have C3:=G3.1
 refine Evs ?_
 refine zlJ (zQk c 3 _ b C3 (by decide)) rfl (fun q hq=>⟨by rw [hq];exact C3.ne,.inr (hq ▸ own)⟩) ?_
 rintro v h4 - ⟨k4,⟨rfl,a4,b4⟩,G4⟩
 have C4:=G4.1
 refine Evs ?_
 refine zlJ (zQl c 4 _ b C4 (by decide)) rfl (fun q hq=>⟨by rw [hq];exact C4.ne,.inr (hq ▸ own)⟩) ?_
 rintro v h5 - ⟨k5,rfl,G5⟩
 have C5:=G5.1
 refine Evs ?_
 rw [zjz (n:=40+k1) (by omega),zjz (n:=600+k2) (by omega)]
 refine Wk ?_
 exact ⟨⟨zQu i,40+k1,600+k2,k3,k4,k5⟩,⟨rfl,rfl,(by show 40≤40+k1∧40+k1 < 240;omega),(by show 600≤600+k2∧600+k2 < 1100;omega),⟨a3,b3⟩,a4,b4⟩,(((G1.trans G2).trans G3).trans G4).trans G5⟩
theorem zQ0 {k:Int} {l:List DShip} {s:DShip} (H:∀ i,i < l.length→zQv k i (l.getD i dH)) (hs:zQv k l.length s):∀ i,i < (l ++ [s]).length→zQv k i ((l ++ [s]).getD i dH):=fun i hi=>by
 rw [List.length_append,List.length_singleton] at hi
 rcases Nat.lt_or_ge i l.length with h|h
 ·rw [List.getD_eq_getElem?_getD,List.getElem?_append_left h,← List.getD_eq_getElem?_getD];exact H i h
 ·obtain rfl:i=l.length:=by omega
  have e:(l ++ [s]).getD l.length dH=s:=by simp only [List.getD_eq_getElem?_getD,List.getElem?_concat_length,Option.getD_some]
  rw [e];exact hs
set_option maxRecDepth 30000 in
theorem zQ1 (c:Sl U8) (h:Hp) (b:Nat) (H:Cu 188 c h b):Cw jV 187 [.pointer (some ⟨b,0,none⟩),.int .i64 3] h (fun k=>k=b) fun v h'=>∃ s:Sl DShip,(v=s.val∧zQw 3 s.l∧RowAt 168 (h'.del b) s∧∀ g,s.a=some ⟨g,0,none⟩→h g=none∧g ≠ b)∧Cg 188 c h b h':=by
 refine zlI (fun A W=>by simp) Tryz.func187 rfl rfl (by simp)  (fun q hq=>by rw [hq];exact H.ne) fun W0 hW=>?_
 have own:W0.own b:=hW b rfl
 (first|refine zie rfl ?_|refine zc4 rfl ?_|(refine zc3 ?_;first|refine zie rfl ?_|refine zc4 rfl ?_));simp only [go_sem,jq,jj,jy,jv,jk,jx]
 (first|refine zie rfl ?_|refine zc4 rfl ?_|(refine zc3 ?_;first|refine zie rfl ?_|refine zc4 rfl ?_));simp only [go_sem,jq,jj,jy,jv,jk,jx]
 first|refine zyi [0,0,1] rfl ?_|refine zyh [0,0,1] rfl ?_|(refine zc3 ?_;first|refine zyi [0,0,1] rfl ?_|refine zyh [0,0,1] rfl ?_)
 refine Evs ?_
 refine zlJ (zQk c 3 _ b H (by decide)) rfl (fun q hq=>⟨by rw [hq];exact H.ne,.inr (hq ▸ own)⟩) ?_
 rintro v h2 - ⟨k2,⟨rfl,a2,b2⟩,G2⟩
 have C2:=G2.1
 refine Evs ?_
 obtain ⟨n0,hn0⟩:∃ n0:Nat,IntKind.i64.wrap (1+k2)=(n0:Int)∧1≤n0∧n0≤3:=⟨(1+k2).toNat,by rw [zjz (by omega)];omega⟩
 rw [hn0.1]
 repeat' first|refine zc8 ?_|(refine zc5 ?_;simp only [go_sem,jq,jj,jy,jv,jk,jx])|refine zc3 ?_
 refine zEE (ι:=List DShip × Nat × Hp) (fun i=>⟨[(0,true,.c (.v (.pointer (some ⟨b,0,none⟩)))),(4,true,.c (.v (.slice none 0 0))),(5,true,.c (.s 0)),(6,true,.c (.v (.int .i64 i.2.1)))],[(0,.row 168 6 i.1.length (i.1.flatMap Enc.enc))],i.2.2,1⟩)
  (fun i=>i.1.length+i.2.1=n0∧(∀ j,j < i.1.length→zQv 3 j (i.1.getD j dH))∧Cg 188 c h b i.2.2) (fun i=>i.2.1) ([],n0,h2) ⟨Nat.zero_add _,(fun j hj=>absurd hj (Nat.not_lt_zero j)),G2⟩ [0] ?_ ?_
 ·refine Evs ?_
  repeat' first|exact rfl|exact trivial|assumption|decide|refine And.intro ?_ ?_
 rintro ⟨ls,n,hk⟩ ⟨hl,hg,Gk⟩
 simp only at hl hg Gk
 have Ck:=Gk.1
 refine Wk ?_
 refine zc9 rfl (fun hd=>?_) (fun hd=>?_)
 ·have hlt:0 < n:=by have:=of_decide_eq_true hd;omega
  repeat' first|refine zc8 ?_|(refine zc5 ?_;simp only [go_sem,jq,jj,jy,jv,jk,jx])|refine zc3 ?_
  first|refine zyi [0,0,0,0,1] rfl ?_|refine zyh [0,0,0,0,1] rfl ?_|(refine zc3 ?_;first|refine zyi [0,0,0,0,1] rfl ?_|refine zyh [0,0,0,0,1] rfl ?_)
  refine Evs ?_
  refine zlJ (zQZ ls.length (by omega) c _ b Ck) rfl (fun q hq=>⟨by rw [hq];exact Ck.ne,.inr (hq ▸ own)⟩) ?_
  rintro v h9 - ⟨s,⟨rfl,gs⟩,G9⟩
  refine Evs ?_
  refine ⟨by simp only [maxLen];omega,by omega,?_⟩
  refine Wk ?_
  have hw:IntKind.i64.wrap ((n:Int) - 1)=((n - 1:Nat):Int):=by rw [zjz (by omega)];omega
  refine ⟨(ls ++ [s],n - 1,h9),[2],⟨?_,zQ0 hg gs,Gk.trans G9⟩,(by show n - 1 < n;omega),?_⟩
  ·show (ls ++ [_]).length+(n - 1)=n0
   rw [List.length_append,List.length_singleton];omega
  simp only [go_sem,jq,jj,jy,jv,jk,jx,hw,List.length_append,List.flatMap_append]
  repeat' first|exact rfl|exact trivial|assumption|decide|refine And.intro ?_ ?_
 have hn:n=0:=by have:=of_decide_eq_false hd;omega
 refine zc6 ?_
 refine Evs ?_
 refine zCP 0 ls rfl rfl rfl rfl fun s h9 e9 R9 f9 le9 _=>?_
 refine Wk ?_
 have G9:=Gk.grow le9
 exact ⟨s,⟨rfl,⟨by rw [e9];omega,by rw [e9];exact hg⟩,zOF R9 f9 Ck.ne,fun g hg=>Gk.fresh (f9 g hg)⟩,G9⟩
theorem zQ2 (h:Hp):Ct jV 262 [] h fun v h'=>∃ s:Sl Int,v=s.val∧s.l=List.replicate 64 0∧RowAt 3 h' s∧∀ g,s.a=some ⟨g,0,none⟩→h g=none:=by
 refine zdn (fun A W=>by simp) Tryz.func262 rfl rfl (by simp) fun W0=>?_
 refine Wk ?_
 refine ⟨by decide,by simp only [maxLen];decide,by decide,?_⟩
 rw [show zch (Operand.const (Value.int IntKind.i64 64))=false from rfl]
 refine Evs ?_
 refine zCP 0 (List.replicate 64 (0:Int)) rfl rfl rfl (by kernel_rfl) fun s h9 e9 R9 f9 le9 _=>?_
 refine Wk ?_
 exact ⟨s,rfl,e9,R9,f9⟩
theorem zQ3 (c:Sl U8) (h:Hp) (b:Nat) (H:Cu 188 c h b):Cw jV 188 [.pointer (some ⟨b,0,none⟩)] h (fun k=>k=b) fun v h'=>∃ r:DRegime,(v=r.v∧0≤r.gap∧r.gap < 30)∧Cg 188 c h b h':=by
 refine zlI (fun A W=>by simp) Tryz.func188 rfl rfl (by simp)  (fun q hq=>by rw [hq];exact H.ne) fun W0 hW=>?_
 have own:W0.own b:=hW b rfl
 (first|refine zie rfl ?_|refine zc4 rfl ?_|(refine zc3 ?_;first|refine zie rfl ?_|refine zc4 rfl ?_));simp only [go_sem,jq,jj,jy,jv,jk,jx]
 first|refine zyi [0,1,0,1] rfl ?_|refine zyh [0,1,0,1] rfl ?_|(refine zc3 ?_;first|refine zyi [0,1,0,1] rfl ?_|refine zyh [0,1,0,1] rfl ?_)
 refine Evs ?_
 refine zlJ (zQk c 30 _ b H (by decide)) rfl (fun q hq=>⟨by rw [hq];exact H.ne,.inr (hq ▸ own)⟩) ?_
 rintro v h1 - ⟨k1,⟨rfl,a1,b1⟩,G1⟩
 have C1:=G1.1
 refine Evs ?_
 refine zlJ (zQl c 4 _ b C1 (by decide)) rfl (fun q hq=>⟨by rw [hq];exact C1.ne,.inr (hq ▸ own)⟩) ?_
 rintro v h2 - ⟨k2,rfl,G2⟩
 have C2:=G2.1
 refine Evs ?_
 refine Wk ?_
 exact ⟨⟨k1,k2⟩,⟨rfl,a1,b1⟩,G1.trans G2⟩
set_option maxRecDepth 30000 in
theorem zQ4 (c:Sl U8) (h:Hp) (b:Nat) (H:Cu 188 c h b):Cw jV 238 [.pointer (some ⟨b,0,none⟩)] h (fun k=>k=b) fun v h'=>∃ s:Sl Int,(v=s.val∧(s.l.length=64∧∀ y ∈ s.l,0≤y∧y≤20)∧s.Ok (h'.del b)∧RowAt 3 (h'.del b) s∧∀ g,s.a=some ⟨g,0,none⟩→h g=none)∧Cg 188 c h b h':=by
 refine zlI (fun A W=>by simp) Tryz.func238 rfl rfl (by simp)  (fun q hq=>by rw [hq];exact H.ne) fun W0 hW=>?_
 have own:W0.own b:=hW b rfl
 (first|refine zie rfl ?_|refine zc4 rfl ?_|(refine zc3 ?_;first|refine zie rfl ?_|refine zc4 rfl ?_));simp only [go_sem,jq,jj,jy,jv,jk,jx]
 (first|refine zie rfl ?_|refine zc4 rfl ?_|(refine zc3 ?_;first|refine zie rfl ?_|refine zc4 rfl ?_));simp only [go_sem,jq,jj,jy,jv,jk,jx]
 refine zkr (zQ2 _) rfl ?_
 rintro v h1 le1 ⟨⟨sa,sc,sl⟩,rfl,es,Rs,fs⟩
 simp only at es
 subst es
 refine Evs ?_
 have C1:=H.grow le1
 have fr:∀ g,sa=some ⟨g,0,none⟩→h g=none∧g ≠ b:=fun g hg=>(Cg.refl H).fresh (fs g hg)
 have Rd:=zOF Rs fs H.ne
 refine Wk ?_
 have h64:(Sl.mk sa sc (List.replicate 64 (0:Int))).val=.slice sa 64 sc:=rfl
 refine zEE (ι:=Nat × List Int × Hp) (fun i=>⟨[(0,true,.c (.v (.pointer (some ⟨b,0,none⟩)))),(3,true,.c (.v (.slice sa 64 sc))),(7,true,.c (.v (.int .i64 64))),(8,true,.c (.v (.int .i64 i.1)))],[],i.2.2,0⟩)
  (fun i=>i.1≤64∧i.2.1.length=64∧(∀ y ∈ i.2.1,0≤y∧y≤20)∧Cg 188 c h b i.2.2∧RowAt 3 (i.2.2.del b) (Sl.mk sa sc i.2.1)) (fun i=>64 - i.1) (0,List.replicate 64 0,h1) ⟨Nat.zero_le _,List.length_replicate,(fun y hy=>by rw [List.eq_of_mem_replicate hy];omega),(Cg.refl H).grow le1,Rd⟩ [] ?_ ?_
 ·simp only [go_sem,jq,jj,jy,jv,jk,jx,h64,List.length_replicate]
  repeat' first|exact rfl|exact trivial|assumption|decide|refine And.intro ?_ ?_
 rintro ⟨i,l,hk⟩ ⟨hi,hl,hy,Gk,Rk⟩
 simp only at hi hl hy Gk Rk
 have Ck:=Gk.1
 refine Wk ?_
 refine zc9 rfl (fun hd=>?_) (fun hd=>?_)
 ·have hlt:i < 64:=by have:=of_decide_eq_true hd;omega
  repeat' first|refine zc8 ?_|(refine zc5 ?_;simp only [go_sem,jq,jj,jy,jv,jk,jx])|refine zc3 ?_
  (first|refine zie rfl ?_|refine zc4 rfl ?_|(refine zc3 ?_;first|refine zie rfl ?_|refine zc4 rfl ?_));simp only [go_sem,jq,jj,jy,jv,jk,jx]
  (first|refine zie rfl ?_|refine zc4 rfl ?_|(refine zc3 ?_;first|refine zie rfl ?_|refine zc4 rfl ?_));simp only [go_sem,jq,jj,jy,jv,jk,jx]
  refine ⟨by decide,?_⟩
  repeat' first|refine zc8 ?_|(refine zc5 ?_;simp only [go_sem,jq,jj,jy,jv,jk,jx])|refine zc3 ?_
  refine zED (ι:=List Int × Hp) (fun j=>⟨[(0,true,.c (.v (.pointer (some ⟨b,0,none⟩)))),(3,true,.c (.v (.slice sa 64 sc))),(7,true,.c (.v (.int .i64 64))),(8,true,.c (.v (.int .i64 i)))],[],j.2,0⟩)
   (fun j=>j.1.length=64∧(∀ y ∈ j.1,0≤y∧y≤20)∧Cg 188 c h b j.2∧RowAt 3 (j.2.del b) (Sl.mk sa sc j.1)) (fun _=>rfl) ?_ ?_
  ·refine zc9 rfl (fun hq=>?_) (fun hq=>?_)
   ·first|refine zyi [0,0,0,1,0,0,1] rfl ?_|refine zyh [0,0,0,1,0,0,1] rfl ?_|(refine zc3 ?_;first|refine zyi [0,0,0,1,0,0,1] rfl ?_|refine zyh [0,0,0,1,0,0,1] rfl ?_)
    refine Evs ?_
    refine zlJ (zQk c 5 _ b Ck (by decide)) rfl (fun q hq=>⟨by rw [hq];exact Ck.ne,.inr (hq ▸ own)⟩) ?_
    rintro v h2 - ⟨k2,⟨rfl,a2,b2⟩,G2⟩
    have C2:=G2.1
    have G2':=Gk.trans G2
    have R2:=zOG Rk G2.2
    have hil:i < l.length:=by omega
    obtain ⟨g,cur,ga,gb,gs,R3⟩:=zN2 (i:=i) (o:=0) (u:=.int .i64 (5 * k2)) (w:=5 * k2) R2 hil (by decide) rfl
    have ga:sa=some ⟨g,0,none⟩:=ga
    have hgb:g ≠ b:=(fr g ga).2
    have gb':h2 g=some (.cells cur 3 (0,0)):=by rw [Hp.del_ne hgb] at gb;exact gb
    simp only [go_sem,jq,jj,jy,jv,jk,jx,ga,zjz (show -9223372036854775808≤5 * k2∧5 * k2≤9223372036854775807 by omega),Option.map_some,za4,Option.isSome_some,jW,jY,Nat.mul_one,Nat.zero_add,Nat.add_zero,true_and,and_true,implies_true]
    refine ⟨hlt,?_⟩
    have e0:i * Enc.size Int+0=i:=by show i * 1+0=i;omega
    rw [e0] at gs R3
    refine zl3 (by simp only [go_sem]) (by simp only [go_sem]) rfl rfl gb' (.inl (fr g ga).1) gs ?_
    refine ⟨(l.set i (5 * k2),h2.ins g (.cells (spl i [.int .i64 (5 * k2)] cur.toList).toArray 3 (0,0))),[],⟨by rw [List.length_set];exact hl,fun y h9=>?_,G2'.ins H.1 (fr g ga).1 hgb,by rw [zOJ hgb,← ga];exact R3⟩,?_⟩
    ·rcases List.mem_or_eq_of_mem_set h9 with h9|h9
     ·exact hy y h9
     ·rw [h9];omega
    simp only [go_sem,jq,jj,jy,jv,jk,jx,ga]
    repeat' first|exact rfl|exact trivial|assumption|decide|refine And.intro ?_ ?_
   ·repeat' first|refine zc8 ?_|(refine zc5 ?_;simp only [go_sem,jq,jj,jy,jv,jk,jx])|refine zc3 ?_
    refine ⟨(l,hk),[],⟨hl,hy,Gk,Rk⟩,?_⟩
    refine Evs ?_
    repeat' first|exact rfl|exact trivial|assumption|decide|refine And.intro ?_ ?_
  rintro ⟨l2,hj⟩ ⟨hl2,hy2,Gj,Rj⟩
  simp only at hl2 hy2 Gj Rj
  repeat' first|refine zc8 ?_|(refine zc5 ?_;simp only [go_sem,jq,jj,jy,jv,jk,jx])|refine zc3 ?_
  (first|refine zie rfl ?_|refine zc4 rfl ?_|(refine zc3 ?_;first|refine zie rfl ?_|refine zc4 rfl ?_));simp only [go_sem,jq,jj,jy,jv,jk,jx]
  refine ⟨(i+1,l2,hj),[],⟨hlt,hl2,hy2,Gj,Rj⟩,(by show 64 - (i+1) < 64 - i;omega),?_⟩
  refine Evs ?_
  repeat' first|exact zjB (zjA hlt (by omega))|exact rfl|exact trivial|assumption|decide|refine And.intro ?_ ?_
 refine Wk ?_
 exact ⟨Sl.mk sa sc l,⟨by simp only [Sl.val,hl],⟨hl,hy⟩,Rk.ok (by decide) fun y h9=>by have:=hy y h9;show I64 y;unfold I64;omega,Rk,fun g hg=>(fr g hg).1⟩,Gk⟩
set_option maxRecDepth 30000 in
theorem zQ5 (c:Sl U8) (h:Hp) (b:Nat) (H:Cu 188 c h b):Cw jV 189 [.pointer (some ⟨b,0,none⟩)] h (fun k=>k=b) fun v h'=>∃ w:DCrew,(v=w.v∧zQx w∧RowAt 3 (h'.del b) w.moves∧∀ g,w.moves.a=some ⟨g,0,none⟩→h g=none)∧Cg 188 c h b h':=by
 refine zlI (fun A W=>by simp) Tryz.func189 rfl rfl (by simp)  (fun q hq=>by rw [hq];exact H.ne) fun W0 hW=>?_
 have own:W0.own b:=hW b rfl
 (first|refine zie rfl ?_|refine zc4 rfl ?_|(refine zc3 ?_;first|refine zie rfl ?_|refine zc4 rfl ?_));simp only [go_sem,jq,jj,jy,jv,jk,jx]
 first|refine zyi [0,1,0,0,1,0,0,1,0,1] rfl ?_|refine zyh [0,1,0,0,1,0,0,1,0,1] rfl ?_|(refine zc3 ?_;first|refine zyi [0,1,0,0,1,0,0,1,0,1] rfl ?_|refine zyh [0,1,0,0,1,0,0,1,0,1] rfl ?_)
 refine Evs ?_
 refine zlJ (zQk c 4 _ b H (by decide)) rfl (fun q hq=>⟨by rw [hq];exact H.ne,.inr (hq ▸ own)⟩) ?_
 rintro v h1 - ⟨k1,⟨rfl,a1,b1⟩,G1⟩
 have C1:=G1.1
 refine Evs ?_
 refine zlJ (zQk c 3 _ b C1 (by decide)) rfl (fun q hq=>⟨by rw [hq];exact C1.ne,.inr (hq ▸ own)⟩) ?_
 rintro v h2 - ⟨k2,⟨rfl,a2,b2⟩,G2⟩
 have C2:=G2.1
 refine Evs ?_
 refine zlJ (zQk c 60 _ b C2 (by decide)) rfl (fun q hq=>⟨by rw [hq];exact C2.ne,.inr (hq ▸ own)⟩) ?_
 rintro v h3 - ⟨k3,⟨rfl,a3,b3⟩,G3⟩
 have C3:=G3.1
 refine Evs ?_
 refine zlJ (zQ4 c _ b C3) rfl (fun q hq=>⟨by rw [hq];exact C3.ne,.inr (hq ▸ own)⟩) ?_
 rintro v h4 - ⟨s,⟨rfl,ms,_,Rs,fs⟩,G4⟩
 have C4:=G4.1
 refine Evs ?_
 rw [zjz (n:=1+k1) (by omega),zjz (n:=1+k2) (by omega)]
 refine Wk ?_
 exact ⟨⟨1+k1,1+k2,k3,s⟩,⟨rfl,⟨(by show 1≤1+k1∧1+k1 < 5;omega),(by show 1≤1+k2∧1+k2 < 4;omega),⟨a3,b3⟩,ms⟩,Rs,fun g hg=>((((Cg.refl H).trans G1).trans G2).trans G3).fresh (fs g hg) |>.1⟩,((G1.trans G2).trans G3).trans G4⟩
set_option maxRecDepth 30000 in
theorem zQ6 (c:Sl U8) (h:Hp) (b:Nat) (H:Cu 188 c h b):Cw jV 141 [.pointer (some ⟨b,0,none⟩)] h (fun k=>k=b) fun v h'=>∃ x:DHarbour,(v=x.v∧zQy x∧Enc.ok (h'.del b) x)∧Cg 188 c h b h':=by
 refine zlI (fun A W=>by simp) Tryz.func141 rfl rfl (by simp)  (fun q hq=>by rw [hq];exact H.ne) fun W0 hW=>?_
 have own:W0.own b:=hW b rfl
 (first|refine zie rfl ?_|refine zc4 rfl ?_|(refine zc3 ?_;first|refine zie rfl ?_|refine zc4 rfl ?_));simp only [go_sem,jq,jj,jy,jv,jk,jx]
 first|refine zyi [0,1,0,1,0,1,0,1,0,1] rfl ?_|refine zyh [0,1,0,1,0,1,0,1,0,1] rfl ?_|(refine zc3 ?_;first|refine zyi [0,1,0,1,0,1,0,1,0,1] rfl ?_|refine zyh [0,1,0,1,0,1,0,1,0,1] rfl ?_)
 refine Evs ?_
 refine zlJ (zQQ c _ b H) rfl (fun q hq=>⟨by rw [hq];exact H.ne,.inr (hq ▸ own)⟩) ?_
 rintro v h1 - ⟨f,⟨rfl,gt,gs0,okf⟩,G1⟩
 have C1:=G1.1
 refine Evs ?_
 refine zlJ (zQV c _ b C1) rfl (fun q hq=>⟨by rw [hq];exact C1.ne,.inr (hq ▸ own)⟩) ?_
 rintro v h2 - ⟨x,⟨rfl,gc,okx⟩,G2⟩
 have C2:=G2.1
 refine Evs ?_
 refine zlJ (zQ1 c _ b C2) rfl (fun q hq=>⟨by rw [hq];exact C2.ne,.inr (hq ▸ own)⟩) ?_
 rintro v h3 - ⟨fl,⟨rfl,gfl,Rf,ff⟩,G3⟩
 have C3:=G3.1
 refine Evs ?_
 refine zlJ (zQ3 c _ b C3) rfl (fun q hq=>⟨by rw [hq];exact C3.ne,.inr (hq ▸ own)⟩) ?_
 rintro v h4 - ⟨r,⟨rfl,g0,g1⟩,G4⟩
 have C4:=G4.1
 refine Evs ?_
 refine zlJ (zQ5 c _ b C4) rfl (fun q hq=>⟨by rw [hq];exact C4.ne,.inr (hq ▸ own)⟩) ?_
 rintro v h5 - ⟨w,⟨rfl,gw,Rw,fw⟩,G5⟩
 have C5:=G5.1
 refine Evs ?_
 obtain ⟨fa,fc,l0⟩:=fl
 obtain ⟨n,hn⟩:∃ n,l0.length=n:=⟨_,rfl⟩
 have hfv:(Sl.mk fa fc l0).val=.slice fa n fc:=by rw [← hn];rfl
 have hm:=gt.1
 have hn3:n≤3:=by have:=gfl.1;simp only [hn] at this;omega
 rw [hfv]
 (first|refine zie rfl ?_|refine zc4 rfl ?_|(refine zc3 ?_;first|refine zie rfl ?_|refine zc4 rfl ?_));simp only [go_sem,jq,jj,jy,jv,jk,jx]
 rw [zjz (n:=f.tide.mean+150) (by omega)]
 (first|refine zie rfl ?_|refine zc4 rfl ?_|(refine zc3 ?_;first|refine zie rfl ?_|refine zc4 rfl ?_));simp only [go_sem,jq,jj,jy,jv,jk,jx]
 repeat' first|refine zc8 ?_|(refine zc5 ?_;simp only [go_sem,jq,jj,jy,jv,jk,jx])|refine zc3 ?_
 refine zEE (ι:=Nat × List DShip × Hp) (fun i=>⟨[(2,true,.c (.p 0 0)),(3,true,.c (.p 1 0)),(26,true,.c (.v (.int .i64 n))),(27,true,.c (.v (.int .i64 i.1)))],[(0,.box 58 [.v (.int .i64 0),.v (.slice none 0 0),.v (.slice none 0 0),.v (.slice none 0 0),.v (.slice none 0 0),.v (.slice none 0 0),.v (.int .i64 0),.v (.bool false),.v (.int .i64 0),.v (.int .i64 0),.v (.int .i64 0),.v (.slice none 0 0)]),(1,.box 58 [.v (.int .i64 (f.tide.mean+150)),.v f.tide.parts.val,.v f.surges.val,.v x.points.val,.v x.segments.val,.v (.slice fa n fc),.v (.int .i64 r.gap),.v (.bool r.noMeet),.v (.int .i64 w.tugs),.v (.int .i64 w.pilots),.v (.int .i64 w.rest),.v w.moves.val])],i.2.2,2⟩)
  (fun i=>i.1≤n∧i.2.1.length=n∧(∀ j,j < n→zQv (if j < i.1 then 2 else 3) j (i.2.1.getD j dH))∧Cg 188 c h2 b i.2.2∧RowAt 168 (i.2.2.del b) (Sl.mk fa fc i.2.1)∧RowAt 3 (i.2.2.del b) w.moves) (fun i=>n - i.1) (0,l0,h5)
  ⟨Nat.zero_le _,hn,fun j hj=>gfl.2 j (by rw [hn];exact hj),(G3.trans G4).trans G5,zOG Rf (G4.trans G5).2,Rw⟩ [0,1] ?_ ?_
 ·refine Evs ?_
  repeat' first|exact rfl|exact trivial|assumption|decide|refine And.intro ?_ ?_
 rintro ⟨i,l,hk⟩ ⟨hi,hl,hg,Gk,Rk,Rm⟩
 simp only at hi hl hg Gk Rk Rm
 have Ck:=Gk.1
 have okd:(Sl.mk fa fc l).Ok (hk.del b):=Rk.ok (by decide) fun s hs=>by
  obtain ⟨j,hj,rfl⟩:=List.getElem_of_mem hs
  have hj:j < l.length:=hj
  have:=hg j (by omega)
  rw [List.getD_eq_getElem?_getD,List.getElem?_eq_getElem hj] at this
  exact zQY (by split <;> decide) this
 refine Wk ?_
 refine zc9 rfl (fun hd=>?_) (fun hd=>?_)
 ·have hlt:i < n:=by have:=of_decide_eq_true hd;omega
  have hil:i < (Sl.mk fa fc l).l.length:=by show i < l.length;omega
  have hili:(i:Int) < n:=by omega
  have okl:=okd.mono zOB
  have hfs:=zmU okl hil
  obtain ⟨g,cur,ga,gb,gs,R3⟩:=zN2 (i:=i) (o:=4) (u:=.int .i64 (min (Sl.mk fa fc l).l[i].tugs 1)) (w:={ (Sl.mk fa fc l).l[i] with tugs:=min (Sl.mk fa fc l).l[i].tugs 1 }) Rk hil (by decide) rfl
  have ga:fa=some ⟨g,0,none⟩:=ga
  simp only [ga,Option.map_some,za4,Nat.zero_add] at hfs
  have hgb:g ≠ b:=(ff g ga).2
  have hgn2:h2 g=none:=(ff g ga).1
  have hgn:h g=none:=((G1.trans G2).fresh hgn2).1
  have gb2:hk g=some (.cells cur 168 (0,0)):=by rw [Hp.del_ne hgb] at gb;exact gb
  repeat' first|refine zc8 ?_|(refine zc5 ?_;simp only [go_sem,jq,jj,jy,jv,jk,jx])|refine zc3 ?_
  (first|refine zie rfl ?_|refine zc4 rfl ?_|(refine zc3 ?_;first|refine zie rfl ?_|refine zc4 rfl ?_));simp only [go_sem,jq,jj,jy,jv,jk,jx]
  repeat' first|refine zc8 ?_|(refine zc5 ?_;simp only [go_sem,jq,jj,jy,jv,jk,jx])|refine zc3 ?_
  refine zyW rfl ?_
  refine U_t [0,2,3,5,1,4,6,7,8] rfl ?_
  simp only [go_sem,jq,jj,jy,jv,jk,jx,ga,hfs,hil,hili,okl.some hil,Option.map_some,za4,Option.isSome_some,jW,jY,Nat.zero_add,Nat.add_zero,true_and,and_true,implies_true,and_self,List.toList_toArray]
  refine U_1 9 0 [1,0] rfl rfl ?_
  simp only [go_sem,jq,jj,jy,jv,jk,jx,ga,hfs,hil,hili,okl.some hil,Option.map_some,za4,Option.isSome_some,jW,jY,Nat.zero_add,Nat.add_zero,true_and,and_true,implies_true,and_self,List.toList_toArray]
  refine U_t [10,11] rfl ?_
  simp only [go_sem,jq,jj,jy,jv,jk,jx,ga,hfs,hil,hili,okl.some hil,Option.map_some,za4,Option.isSome_some,jW,jY,Nat.zero_add,Nat.add_zero,true_and,and_true,implies_true,and_self,List.toList_toArray]
  refine U_1 12 1 [] rfl rfl ?_
  simp only [go_sem,jq,jj,jy,jv,jk,jx,ga,hfs,hil,hili,okl.some hil,Option.map_some,za4,Option.isSome_some,jW,jY,Nat.zero_add,Nat.add_zero,true_and,and_true,implies_true,and_self,List.toList_toArray]
  refine zl3 (by simp only [go_sem]) (by simp only [go_sem]) rfl rfl gb2 (.inl hgn) gs ?_
  try simp only [go_sem,jq,jj,jy,jv,jk,jx]
  refine U_d ?_
  (first|refine zie rfl ?_|refine zc4 rfl ?_|(refine zc3 ?_;first|refine zie rfl ?_|refine zc4 rfl ?_));simp only [go_sem,jq,jj,jy,jv,jk,jx]
  have hgi:=hg i hlt
  have hgd:l.getD i dH=l[i]'(by omega):=by rw [List.getD_eq_getElem?_getD,List.getElem?_eq_getElem (by omega)];rfl
  rw [hgd,if_neg (Nat.lt_irrefl i)] at hgi
  refine ⟨(i+1,l.set i { (l[i]'(by omega)) with tugs:=min (l[i]'(by omega)).tugs 1 },hk.ins g (.cells (spl (i * 6+4) [.int .i64 (min (l[i]'(by omega)).tugs 1)] cur.toList).toArray 168 (0,0))),[0,1],⟨hlt,by rw [List.length_set];exact hl,fun j hj=>?_,Gk.ins C2.1 hgn2 hgb,by rw [zOJ hgb,← ga];exact R3,Rm.keep fun g' hg'=>?_⟩,(by show n - (i+1) < n - i;omega),?_⟩
  ·by_cases e:i=j
   ·subst e
    rw [if_pos (Nat.lt_succ_self i),List.getD_eq_getElem?_getD,List.getElem?_set_self (by omega)]
    obtain ⟨q1,q2,q3,q4,q5⟩:=hgi
    exact ⟨q1,q2,q3,q4,(by show 0≤min (l[i]'(by omega)).tugs 1∧min (l[i]'(by omega)).tugs 1 < 2;omega)⟩
   ·have:=hg j hj
    rw [List.getD_eq_getElem?_getD,List.getElem?_set_ne e,← List.getD_eq_getElem?_getD]
    by_cases e2:j < i
    ·rw [if_pos e2] at this;rw [if_pos (by show j < i+1;omega)];exact this
    ·rw [if_neg e2] at this;rw [if_neg (by show ¬ j < i+1;omega)];exact this
  ·have hne:g' ≠ g:=fun e=>by
    subst e
    have h4n:=fw g' hg'
    have hm3:=Rf.mem (g:=g') ga
    cases h9:(h3.del b) g' with
    | none=>exact hm3 h9
    | some o =>
     have:=G4.2 _ _ h9
     rw [Hp.del_ne hgb,h4n] at this
     cases this
   rw [zOJ hgb,Hp.ins_ne hne]
  simp only [go_sem,jq,jj,jy,jv,jk,jx,ga]
  repeat' first|exact zjB (zjA hlt (by omega))|exact rfl|exact trivial|assumption|decide|refine And.intro ?_ ?_
 have hin:i=n:=by have:=of_decide_eq_false hd;omega
 subst hin
 subst hl
 refine Wk ?_
 have okf':=Enc.mono (Hp.le_trans G2.2 Gk.2) okf
 have okx':=Enc.mono Gk.2 okx
 have okm:=Rm.ok (by decide) fun y hy=>by have:=gw.2.2.2.2 y hy;show I64 y;unfold I64;omega
 obtain ⟨⟨okt0,okt1⟩,oks⟩:=okf'
 refine ⟨⟨⟨⟨f.tide.mean+150,f.tide.parts⟩,f.surges⟩,x,⟨fa,fc,l⟩,r,w⟩,⟨rfl,⟨(by show 150≤f.tide.mean+150∧f.tide.mean+150 < 450;omega),gt.2,gs0,gc,⟨(by show 1≤l.length∧l.length≤3;have:=gfl.1;simp only [hn] at this;omega),fun j hj=>?_⟩,⟨g0,g1⟩,gw⟩,⟨⟨⟨(by show I64 (f.tide.mean+150);unfold I64;omega),okt1⟩,oks⟩,okx',okd,(by show I64 r.gap;unfold I64;omega),?_⟩⟩,(G1.trans G2).trans Gk⟩
 ·have hj:j < l.length:=hj
  have:=hg j (by omega)
  rwa [if_pos (by omega)] at this
 ·obtain ⟨w1,w2,w3,_⟩:=gw
  exact ⟨(by show I64 w.tugs;unfold I64;omega),(by show I64 w.pilots;unfold I64;omega),(by show I64 w.rest;unfold I64;omega),okm⟩
end Go.Proofs.YtdejfjdbcggilaaGreat
