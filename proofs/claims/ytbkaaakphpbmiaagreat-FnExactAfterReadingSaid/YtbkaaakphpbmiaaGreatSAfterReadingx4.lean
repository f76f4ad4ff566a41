/- Plain theorems about the model. -/
import Derived.Laws.Strings
import Derived.WideShapes
import Derived.Test.YtbkaaakphpbmiaaGreatSAfterReadingx3
set_option linter.unusedVariables false
set_option linter.unusedSimpArgs false
set_option maxRecDepth 4000
open Nat renaming reduceAdd → jq, reduceMul → jj, reduceBEq → jy, reduceLeDiff → jv, reduceLT → jk, reduceEqDiff → jx
open Bool renaming or_eq_false_iff → jp, or_eq_true → jQ, and_eq_true → jJ
open Int renaming toNat_natCast → jW, natCast_nonneg → jY
namespace Go.SL
open Go Go.RowKit
def mkB (k:Int):Bool:=Int.tmod k 3 == 0
def zlJ:Nat→Nat→List UInt8→List UInt8
 | 0,_,acc=>acc
 | f+1,n,acc=>if n=0 then acc else zlJ f (n / 10) (UInt8.ofNat (48+n % 10) :: acc)
def mkT (k:Int):ByteArray:=⟨((109:UInt8) :: (if k≤0 then [48] else zlJ 64 k.toNat [])).toArray⟩
instance:Foot DCall:=⟨fun _=>[],fun _ _=>True,fun H _ _=>⟨H,trivial⟩,fun _ b hb=>by cases hb⟩
instance:Foot DPassage:=⟨fun _=>[],fun _ _=>True,fun H _ _=>⟨H,trivial⟩,fun _ b hb=>by cases hb⟩
instance:Foot DOption where
 foot c:=Foot.foot c.pas
 own h c:=Foot.own h c.pas
 loc {h h' c} hok hown hk:=by
  have hok:I64 c.start∧I64 c.arr∧I64 c.cost∧c.pas.Ok h:=hok
  have hown:Foot.own h c.pas:=hown
  obtain ⟨k0,w0⟩:=Foot.loc (x:=c.pas) (h':=h') (hok.2.2.2) (hown) fun b hb=>hk b hb
  exact ⟨⟨hok.1,hok.2.1,hok.2.2.1,k0⟩,w0⟩
 dom {h c} hown b hb:=by
  have hown:Foot.own h c.pas:=hown
  have hb:b ∈ Foot.foot c.pas:=hb
  exact Foot.dom hown b hb
instance:Foot DCrew where
 foot c:=Foot.foot c.moves
 own h c:=Foot.own h c.moves
 loc {h h' c} hok hown hk:=by
  have hok:I64 c.tugs∧I64 c.pilots∧I64 c.rest∧c.moves.Ok h:=hok
  have hown:Foot.own h c.moves:=hown
  obtain ⟨k0,w0⟩:=Foot.loc (x:=c.moves) (h':=h') (hok.2.2.2) (hown) fun b hb=>hk b hb
  exact ⟨⟨hok.1,hok.2.1,hok.2.2.1,k0⟩,w0⟩
 dom {h c} hown b hb:=by
  have hown:Foot.own h c.moves:=hown
  have hb:b ∈ Foot.foot c.moves:=hb
  exact Foot.dom hown b hb
theorem zPg (c:DCrew):Foot.foot c=Foot.foot c.moves:=rfl
theorem zPh {h:Hp} {c:DCrew}:Foot.own h c=(Foot.own h c.moves):=rfl
instance:Foot DPart:=⟨fun _=>[],fun _ _=>True,fun H _ _=>⟨H,trivial⟩,fun _ b hb=>by cases hb⟩
instance:Foot DTide where
 foot c:=Foot.foot c.parts
 own h c:=Foot.own h c.parts
 loc {h h' c} hok hown hk:=by
  have hok:I64 c.mean∧c.parts.Ok h:=hok
  have hown:Foot.own h c.parts:=hown
  obtain ⟨k0,w0⟩:=Foot.loc (x:=c.parts) (h':=h') (hok.2) (hown) fun b hb=>hk b hb
  exact ⟨⟨hok.1,k0⟩,w0⟩
 dom {h c} hown b hb:=by
  have hown:Foot.own h c.parts:=hown
  have hb:b ∈ Foot.foot c.parts:=hb
  exact Foot.dom hown b hb
theorem zPi (c:DTide):Foot.foot c=Foot.foot c.parts:=rfl
theorem zPj {h:Hp} {c:DTide}:Foot.own h c=(Foot.own h c.parts):=rfl
instance:Foot DSurge:=⟨fun _=>[],fun _ _=>True,fun H _ _=>⟨H,trivial⟩,fun _ b hb=>by cases hb⟩
instance:Foot DForecast where
 foot c:=Foot.foot c.tide ++ Foot.foot c.surges
 own h c:=Foot.own h c.tide∧Foot.own h c.surges
 loc {h h' c} hok hown hk:=by
  have hok:Enc.ok h c.tide∧c.surges.Ok h:=hok
  have hown:Foot.own h c.tide∧Foot.own h c.surges:=hown
  obtain ⟨k0,w0⟩:=Foot.loc (x:=c.tide) (h':=h') (hok.1) (hown.1) fun b hb=>hk b (List.mem_append_left _ hb)
  obtain ⟨k1,w1⟩:=Foot.loc (x:=c.surges) (h':=h') (hok.2) (hown.2) fun b hb=>hk b (List.mem_append_right _ hb)
  exact ⟨⟨k0,k1⟩,⟨w0,w1⟩⟩
 dom {h c} hown b hb:=by
  have hown:Foot.own h c.tide∧Foot.own h c.surges:=hown
  have hb:b ∈ Foot.foot c.tide ++ Foot.foot c.surges:=hb
  simp only [List.mem_append] at hb
  rcases hb with h0|h1
  ·exact Foot.dom (hown.1) b h0
  ·exact Foot.dom (hown.2) b h1
theorem zPk (c:DForecast):Foot.foot c=Foot.foot c.tide ++ Foot.foot c.surges:=rfl
theorem zPl {h:Hp} {c:DForecast}:Foot.own h c=(Foot.own h c.tide∧Foot.own h c.surges):=rfl
instance:Foot DPoint:=⟨fun _=>[],fun _ _=>True,fun H _ _=>⟨H,trivial⟩,fun _ b hb=>by cases hb⟩
instance:Foot DSegment:=⟨fun _=>[],fun _ _=>True,fun H _ _=>⟨H,trivial⟩,fun _ b hb=>by cases hb⟩
instance:Foot DChart where
 foot c:=Foot.foot c.points ++ Foot.foot c.segments
 own h c:=Foot.own h c.points∧Foot.own h c.segments
 loc {h h' c} hok hown hk:=by
  have hok:c.points.Ok h∧c.segments.Ok h:=hok
  have hown:Foot.own h c.points∧Foot.own h c.segments:=hown
  obtain ⟨k0,w0⟩:=Foot.loc (x:=c.points) (h':=h') (hok.1) (hown.1) fun b hb=>hk b (List.mem_append_left _ hb)
  obtain ⟨k1,w1⟩:=Foot.loc (x:=c.segments) (h':=h') (hok.2) (hown.2) fun b hb=>hk b (List.mem_append_right _ hb)
  exact ⟨⟨k0,k1⟩,⟨w0,w1⟩⟩
 dom {h c} hown b hb:=by
  have hown:Foot.own h c.points∧Foot.own h c.segments:=hown
  have hb:b ∈ Foot.foot c.points ++ Foot.foot c.segments:=hb
  simp only [List.mem_append] at hb
  rcases hb with h0|h1
  ·exact Foot.dom (hown.1) b h0
  ·exact Foot.dom (hown.2) b h1
theorem zPm (c:DChart):Foot.foot c=Foot.foot c.points ++ Foot.foot c.segments:=rfl
theorem zPn {h:Hp} {c:DChart}:Foot.own h c=(Foot.own h c.points∧Foot.own h c.segments):=rfl
instance:Foot DShip:=⟨fun _=>[],fun _ _=>True,fun H _ _=>⟨H,trivial⟩,fun _ b hb=>by cases hb⟩
instance:Foot DRegime:=⟨fun _=>[],fun _ _=>True,fun H _ _=>⟨H,trivial⟩,fun _ b hb=>by cases hb⟩
instance:Foot DHarbour where
 foot c:=Foot.foot c.forecast ++ Foot.foot c.chart ++ Foot.foot c.fleet ++ Foot.foot c.crew
 own h c:=Foot.own h c.forecast∧Foot.own h c.chart∧Foot.own h c.fleet∧Foot.own h c.crew
 loc {h h' c} hok hown hk:=by
  have hok:Enc.ok h c.forecast∧Enc.ok h c.chart∧c.fleet.Ok h∧Enc.ok h c.regime∧Enc.ok h c.crew:=hok
  have hown:Foot.own h c.forecast∧Foot.own h c.chart∧Foot.own h c.fleet∧Foot.own h c.crew:=hown
  obtain ⟨k0,w0⟩:=Foot.loc (x:=c.forecast) (h':=h') (hok.1) (hown.1) fun b hb=>hk b (List.mem_append_left _ (List.mem_append_left _ (List.mem_append_left _ hb)))
  obtain ⟨k1,w1⟩:=Foot.loc (x:=c.chart) (h':=h') (hok.2.1) (hown.2.1) fun b hb=>hk b (List.mem_append_left _ (List.mem_append_left _ (List.mem_append_right _ hb)))
  obtain ⟨k2,w2⟩:=Foot.loc (x:=c.fleet) (h':=h') (hok.2.2.1) (hown.2.2.1) fun b hb=>hk b (List.mem_append_left _ (List.mem_append_right _ hb))
  obtain ⟨k3,w3⟩:=Foot.loc (x:=c.crew) (h':=h') (hok.2.2.2.2) (hown.2.2.2) fun b hb=>hk b (List.mem_append_right _ hb)
  exact ⟨⟨k0,k1,k2,hok.2.2.2.1,k3⟩,⟨w0,w1,w2,w3⟩⟩
 dom {h c} hown b hb:=by
  have hown:Foot.own h c.forecast∧Foot.own h c.chart∧Foot.own h c.fleet∧Foot.own h c.crew:=hown
  have hb:b ∈ Foot.foot c.forecast ++ Foot.foot c.chart ++ Foot.foot c.fleet ++ Foot.foot c.crew:=hb
  simp only [List.mem_append] at hb
  rcases hb with ((h0|h1)|h2)|h3
  ·exact Foot.dom (hown.1) b h0
  ·exact Foot.dom (hown.2.1) b h1
  ·exact Foot.dom (hown.2.2.1) b h2
  ·exact Foot.dom (hown.2.2.2) b h3
theorem zPo (c:DHarbour):Foot.foot c=Foot.foot c.forecast ++ Foot.foot c.chart ++ Foot.foot c.fleet ++ Foot.foot c.crew:=rfl
theorem zPp {h:Hp} {c:DHarbour}:Foot.own h c=(Foot.own h c.forecast∧Foot.own h c.chart∧Foot.own h c.fleet∧Foot.own h c.crew):=rfl
instance:Foot DBranch where
 foot c:=Foot.foot c.plan
 own h c:=Foot.own h c.plan
 loc {h h' c} hok hown hk:=by
  have hok:I64 c.low∧I64 c.high∧c.plan.Ok h:=hok
  have hown:Foot.own h c.plan:=hown
  obtain ⟨k0,w0⟩:=Foot.loc (x:=c.plan) (h':=h') (hok.2.2) (hown) fun b hb=>hk b hb
  exact ⟨⟨hok.1,hok.2.1,k0⟩,w0⟩
 dom {h c} hown b hb:=by
  have hown:Foot.own h c.plan:=hown
  have hb:b ∈ Foot.foot c.plan:=hb
  exact Foot.dom hown b hb
instance:Foot DStrategy where
 foot c:=Foot.foot c.branches
 own h c:=Foot.own h c.branches
 loc {h h' c} hok hown hk:=by
  have hok:I64 c.minute∧c.branches.Ok h:=hok
  have hown:Foot.own h c.branches:=hown
  obtain ⟨k0,w0⟩:=Foot.loc (x:=c.branches) (h':=h') (hok.2) (hown) fun b hb=>hk b hb
  exact ⟨⟨hok.1,k0⟩,w0⟩
 dom {h c} hown b hb:=by
  have hown:Foot.own h c.branches:=hown
  have hb:b ∈ Foot.foot c.branches:=hb
  exact Foot.dom hown b hb
instance:Foot DWindow:=⟨fun _=>[],fun _ _=>True,fun H _ _=>⟨H,trivial⟩,fun _ b hb=>by cases hb⟩
instance:Foot DDuty:=⟨fun _=>[],fun _ _=>True,fun H _ _=>⟨H,trivial⟩,fun _ b hb=>by cases hb⟩
instance:Mk DCall:=⟨fun c k=>⟨k,(k+1),(k+2),(k+3),(k+4)⟩,fun c=>5⟩
instance:Mk DPassage:=⟨fun c k=>⟨k,(k+1),mkB (k+2),(k+3),(k+4)⟩,fun c=>5⟩
instance:Mk DOption:=⟨fun c k=>⟨k,(k+1),(k+2),Mk.put c.pas (k+3)⟩,fun c=>3+Mk.cnt c.pas⟩
instance:Mk DCrew:=⟨fun c k=>⟨k,(k+1),(k+2),Mk.put c.moves (k+3)⟩,fun c=>3+Mk.cnt c.moves⟩
instance:Mk DPart:=⟨fun c k=>⟨k,(k+1),(k+2)⟩,fun c=>3⟩
instance:Mk DTide:=⟨fun c k=>⟨k,Mk.put c.parts (k+1)⟩,fun c=>1+Mk.cnt c.parts⟩
instance:Mk DSurge:=⟨fun c k=>⟨k,(k+1),(k+2)⟩,fun c=>3⟩
instance:Mk DPoint:=⟨fun c k=>⟨mkT k,mkB (k+1)⟩,fun c=>2⟩
instance:Mk DSegment:=⟨fun c k=>⟨k,(k+1),(k+2),(k+3),mkB (k+4)⟩,fun c=>5⟩
instance:Mk DChart:=⟨fun c k=>⟨Mk.put c.points k,Mk.put c.segments (k+(Mk.cnt c.points:Nat))⟩,fun c=>Mk.cnt c.points+Mk.cnt c.segments⟩
instance:Mk DShip:=⟨fun c k=>⟨mkT k,(k+1),(k+2),(k+3),(k+4),mkB (k+5)⟩,fun c=>6⟩
instance:Mk DRegime:=⟨fun c k=>⟨k,mkB (k+1)⟩,fun c=>2⟩
instance:Mk DBranch:=⟨fun c k=>⟨k,(k+1),Mk.put c.plan (k+2)⟩,fun c=>2+Mk.cnt c.plan⟩
instance:Mk DStrategy:=⟨fun c k=>⟨k,Mk.put c.branches (k+1)⟩,fun c=>1+Mk.cnt c.branches⟩
instance:Mk DWindow:=⟨fun c k=>⟨k,(k+1)⟩,fun c=>2⟩
instance:Mk DDuty:=⟨fun c k=>⟨k,(k+1),(k+2),(k+3)⟩,fun c=>4⟩
def zPs (c:DCrew) (k:Int):DCrew:={ c with moves:=Mk.put c.moves k }
def zPt (c:DCrew):Nat:=Mk.cnt c.moves
def zPu (c:DTide) (k:Int):DTide:={ c with parts:=Mk.put c.parts k }
def zPv (c:DTide):Nat:=Mk.cnt c.parts
def zPw (c:DForecast) (k:Int):DForecast:={ c with tide:=zPu c.tide k,surges:=Mk.put c.surges (k+(zPv c.tide:Nat)) }
def zPx (c:DForecast):Nat:=zPv c.tide+Mk.cnt c.surges
def zPy (c:DChart) (k:Int):DChart:={ c with points:=Mk.put c.points k,segments:=Mk.put c.segments (k+(Mk.cnt c.points:Nat)) }
def zPz (c:DChart):Nat:=Mk.cnt c.points+Mk.cnt c.segments
def zPA (c:DHarbour) (k:Int):DHarbour:={ c with forecast:=zPw c.forecast k,chart:=zPy c.chart (k+(zPx c.forecast:Nat)),fleet:=Mk.put c.fleet (k+(zPx c.forecast:Nat)+(zPz c.chart:Nat)),crew:=zPs c.crew (k+(zPx c.forecast:Nat)+(zPz c.chart:Nat)+(Mk.cnt c.fleet:Nat)) }
def zPB (c:DHarbour):Nat:=zPx c.forecast+zPz c.chart+Mk.cnt c.fleet+zPt c.crew
open Go Go.RowKit
theorem fld {α:Type} [Enc α] {h:Hp} {s:Sl α} (H:s.Ok h) {i:Nat} (hi:i < s.l.length) (f:Nat) {v:Value} (hv:(Enc.enc s.l[i])[f]?=some v):h.lds (Option.map (fun x=>x.add f) (Option.map (fun x=>x.add (i * Enc.size α)) s.a)) 1=some [v]:=by
 have h1:=H.at hi
 obtain ⟨a,ha⟩:=Option.isSome_iff_exists.1 (H.some hi)
 rw [ha] at h1 ⊢
 have h2:=(zac (show h.cellsAt (a.add (i * Enc.size α)) 0 _=some _ from h1)).2 f v hv
 refine zad rfl fun j u hj=>?_
 cases j with
 | zero=>simp only [List.getElem?_cons_zero,Option.some.injEq] at hj;subst hj;rw [Nat.zero_add] at h2;simpa [zir] using h2
 | succ j=>simp at hj
theorem fld0 {α:Type} [Enc α] {h:Hp} {s:Sl α} (H:s.Ok h) {i:Nat} (hi:i < s.l.length) {v:Value} (hv:(Enc.enc s.l[i])[0]?=some v):h.lds (Option.map (fun x=>x) (Option.map (fun x=>x.add (i * Enc.size α)) s.a)) 1=some [v]:=by
 have:=fld H hi 0 hv
 have e:(fun x:Addr=>x.add 0)=fun x=>x:=by funext x;simp [Addr.add]
 rwa [e] at this
theorem fldS {α:Type} [Enc α] {h:Hp} {s:Sl α} (H:s.Ok h) {i:Nat} (hi:i < s.l.length) (f:Nat) (hf:f ≠ 0) {v:Value} (hv:(Enc.enc s.l[i])[f]?=some v):h.lds (Option.map (fun x=>{ block:=x.block,off:=x.off+f }) (Option.map (fun x=>x.add (i * Enc.size α)) s.a)) 1=some [v]:=by
 have:=fld H hi f hv
 have e:(fun x:Addr=>x.add f)=fun x=>{ block:=x.block,off:=x.off+f }:=by funext x;simp [Addr.add,hf]
 rwa [e] at this
theorem zPC {α:Type} [Mk α]:∀ {l:List α} {k:Int} {i:Nat} (hi:i < l.length),(mkL l k)[i]'(by rw [zlG];exact hi)=Mk.put l[i] (k+cntL (l.take i))
 | x :: l,k,0,hi=>by simp [mkL,cntL]
 | x :: l,k,i+1,hi=>by
  simp only [mkL,List.getElem_cons_succ,List.take_succ_cons,zlF]
  rw [zPC (by simpa using hi)]
  congr 1
  omega
theorem zPD {α:Type} [Mk α] {l:List α} {k:Int} (hm:mkL l k=l) {i:Nat} (hi:i < l.length):l[i]=Mk.put l[i] (k+cntL (l.take i)):=by
 rw [← zPC hi];simp only [hm]
class MkOk (α:Type) [Enc α] [Foot α] [Mk α]:Prop where
 foot:∀ (x:α) (k:Int),Foot.foot (Mk.put x k)=Foot.foot x
 cnt:∀ (x:α) (k:Int),Mk.cnt (Mk.put x k)=Mk.cnt x
 idem:∀ (x:α) (k:Int),Mk.put (Mk.put x k) k=Mk.put x k
section
variable {α:Type} [Enc α] [Foot α] [Mk α] [MkOk α]
theorem zlK:∀ {l:List α} {k:Int},(mkL l k).flatMap Foot.foot=l.flatMap Foot.foot
 | [],_=>rfl
 | x :: l,k=>by rw [mkL,List.flatMap_cons,List.flatMap_cons,MkOk.foot,zlK]
theorem zlL:∀ {l:List α} {k:Int},cntL (mkL l k)=cntL l
 | [],_=>rfl
 | x :: l,k=>by rw [mkL,zlF,zlF,MkOk.cnt,zlL]
theorem zlM:∀ {l:List α} {k:Int},mkL (mkL l k) k=mkL l k
 | [],_=>rfl
 | x :: l,k=>by rw [mkL,mkL,MkOk.idem,MkOk.cnt,zlM]
end
instance:MkOk Int:=⟨fun _ _=>rfl,fun _ _=>rfl,fun _ _=>rfl⟩
instance {α:Type} [Enc α] [Foot α] [Mk α] [MkOk α]:MkOk (Sl α):=⟨fun x k=>by
  by_cases hl:x.l=[]
  ·rw [show Foot.foot x=[] from Sl.foot_nil hl];exact Sl.foot_nil (by show mkL x.l k=[];rw [hl];rfl)
  ·have hl':(Mk.put x k).l ≠ []:=fun e=>hl (List.length_eq_zero_iff.1 (by rw [← zlG (k:=k),show mkL x.l k=[] from e];rfl))
   rw [show Foot.foot x=_ from Sl.foot_ne hl,show Foot.foot (Mk.put x k)=_ from Sl.foot_ne hl']
   show x.blkOf :: (mkL x.l k).flatMap Foot.foot=_
   rw [zlK],
 fun x k=>zlL,fun x k=>by show (⟨x.a,x.cap,mkL (mkL x.l k) k⟩:Sl α)=_;rw [zlM];rfl⟩
theorem zlN {α:Type} [Enc α] {l:List α} {spare:List Value} {i:Nat} {x:α} (hi:i < l.length):spl (i * Enc.size α) (Enc.enc x) (rowL l spare)=rowL (l.set i x) spare:=zlH hi
instance:MkOk DCall:=⟨fun _ _=>rfl,fun _ _=>rfl,fun _ _=>rfl⟩
instance:MkOk DPassage:=⟨fun _ _=>rfl,fun _ _=>rfl,fun _ _=>rfl⟩
instance:MkOk DOption:=⟨fun x k=>MkOk.foot x.pas _,fun x k=>congrArg (3+·) (MkOk.cnt x.pas _),fun x k=>by
 show DOption.mk _ _ _ _=DOption.mk _ _ _ _
 congr 1
 exact MkOk.idem x.pas _⟩
instance:MkOk DCrew:=⟨fun x k=>MkOk.foot x.moves _,fun x k=>congrArg (3+·) (MkOk.cnt x.moves _),fun x k=>by
 show DCrew.mk _ _ _ _=DCrew.mk _ _ _ _
 congr 1
 exact MkOk.idem x.moves _⟩
theorem z1C {h:Hp} {s:Sl DPart} (H:s.Ok h) {i:Nat} (hi:i < s.l.length):h.lds (Option.map (fun x=>x) (Option.map (fun x=>x.add (i * 3)) s.a)) 1=some [.int .i64 s.l[i].amp]∧h.lds (Option.map (fun x=>{ block:=x.block,off:=x.off+1 }) (Option.map (fun x=>x.add (i * 3)) s.a)) 1=some [.int .i64 s.l[i].period]∧h.lds (Option.map (fun x=>{ block:=x.block,off:=x.off+2 }) (Option.map (fun x=>x.add (i * 3)) s.a)) 1=some [.int .i64 s.l[i].phase]:=⟨fld0 H hi rfl,fldS H hi 1 (by decide) rfl,fldS H hi 2 (by decide) rfl⟩
instance:MkOk DPart:=⟨fun _ _=>rfl,fun _ _=>rfl,fun _ _=>rfl⟩
instance:MkOk DTide:=⟨fun x k=>MkOk.foot x.parts _,fun x k=>congrArg (1+·) (MkOk.cnt x.parts _),fun x k=>by
 show DTide.mk _ _=DTide.mk _ _
 congr 1
 exact MkOk.idem x.parts _⟩
theorem zlQ {h:Hp} {s:Sl DSurge} (H:s.Ok h) {i:Nat} (hi:i < s.l.length):h.lds (Option.map (fun x=>x) (Option.map (fun x=>x.add (i * 3)) s.a)) 1=some [.int .i64 s.l[i].src]∧h.lds (Option.map (fun x=>{ block:=x.block,off:=x.off+1 }) (Option.map (fun x=>x.add (i * 3)) s.a)) 1=some [.int .i64 s.l[i].low]∧h.lds (Option.map (fun x=>{ block:=x.block,off:=x.off+2 }) (Option.map (fun x=>x.add (i * 3)) s.a)) 1=some [.int .i64 s.l[i].high]:=⟨fld0 H hi rfl,fldS H hi 1 (by decide) rfl,fldS H hi 2 (by decide) rfl⟩
instance:MkOk DSurge:=⟨fun _ _=>rfl,fun _ _=>rfl,fun _ _=>rfl⟩
theorem zlR {h:Hp} {s:Sl DPoint} (H:s.Ok h) {i:Nat} (hi:i < s.l.length):h.lds (Option.map (fun x=>x) (Option.map (fun x=>x.add (i * 2)) s.a)) 1=some [.string s.l[i].name]∧h.lds (Option.map (fun x=>{ block:=x.block,off:=x.off+1 }) (Option.map (fun x=>x.add (i * 2)) s.a)) 1=some [.bool s.l[i].wait]:=⟨fld0 H hi rfl,fldS H hi 1 (by decide) rfl⟩
instance:MkOk DPoint:=⟨fun _ _=>rfl,fun _ _=>rfl,fun _ _=>rfl⟩
theorem zlS {h:Hp} {s:Sl DSegment} (H:s.Ok h) {i:Nat} (hi:i < s.l.length):h.lds (Option.map (fun x=>x) (Option.map (fun x=>x.add (i * 5)) s.a)) 1=some [.int .i64 s.l[i].a]∧h.lds (Option.map (fun x=>{ block:=x.block,off:=x.off+1 }) (Option.map (fun x=>x.add (i * 5)) s.a)) 1=some [.int .i64 s.l[i].b]∧h.lds (Option.map (fun x=>{ block:=x.block,off:=x.off+2 }) (Option.map (fun x=>x.add (i * 5)) s.a)) 1=some [.int .i64 s.l[i].depth]∧h.lds (Option.map (fun x=>{ block:=x.block,off:=x.off+3 }) (Option.map (fun x=>x.add (i * 5)) s.a)) 1=some [.int .i64 s.l[i].minutes]∧h.lds (Option.map (fun x=>{ block:=x.block,off:=x.off+4 }) (Option.map (fun x=>x.add (i * 5)) s.a)) 1=some [.bool s.l[i].meet]:=⟨fld0 H hi rfl,fldS H hi 1 (by decide) rfl,fldS H hi 2 (by decide) rfl,fldS H hi 3 (by decide) rfl,fldS H hi 4 (by decide) rfl⟩
instance:MkOk DSegment:=⟨fun _ _=>rfl,fun _ _=>rfl,fun _ _=>rfl⟩
theorem zlT {h:Hp} {s:Sl DShip} (H:s.Ok h) {i:Nat} (hi:i < s.l.length):h.lds (Option.map (fun x=>x) (Option.map (fun x=>x.add (i * 6)) s.a)) 1=some [.string s.l[i].name]∧h.lds (Option.map (fun x=>{ block:=x.block,off:=x.off+1 }) (Option.map (fun x=>x.add (i * 6)) s.a)) 1=some [.int .i64 s.l[i].length]∧h.lds (Option.map (fun x=>{ block:=x.block,off:=x.off+2 }) (Option.map (fun x=>x.add (i * 6)) s.a)) 1=some [.int .i64 s.l[i].draught]∧h.lds (Option.map (fun x=>{ block:=x.block,off:=x.off+3 }) (Option.map (fun x=>x.add (i * 6)) s.a)) 1=some [.int .i64 s.l[i].line]∧h.lds (Option.map (fun x=>{ block:=x.block,off:=x.off+4 }) (Option.map (fun x=>x.add (i * 6)) s.a)) 1=some [.int .i64 s.l[i].tugs]∧h.lds (Option.map (fun x=>{ block:=x.block,off:=x.off+5 }) (Option.map (fun x=>x.add (i * 6)) s.a)) 1=some [.bool s.l[i].slow]:=⟨fld0 H hi rfl,fldS H hi 1 (by decide) rfl,fldS H hi 2 (by decide) rfl,fldS H hi 3 (by decide) rfl,fldS H hi 4 (by decide) rfl,fldS H hi 5 (by decide) rfl⟩
instance:MkOk DShip:=⟨fun _ _=>rfl,fun _ _=>rfl,fun _ _=>rfl⟩
instance:MkOk DRegime:=⟨fun _ _=>rfl,fun _ _=>rfl,fun _ _=>rfl⟩
instance:MkOk DBranch:=⟨fun x k=>MkOk.foot x.plan _,fun x k=>congrArg (2+·) (MkOk.cnt x.plan _),fun x k=>by
 show DBranch.mk _ _ _=DBranch.mk _ _ _
 congr 1
 exact MkOk.idem x.plan _⟩
instance:MkOk DStrategy:=⟨fun x k=>MkOk.foot x.branches _,fun x k=>congrArg (1+·) (MkOk.cnt x.branches _),fun x k=>by
 show DStrategy.mk _ _=DStrategy.mk _ _
 congr 1
 exact MkOk.idem x.branches _⟩
instance:MkOk DWindow:=⟨fun _ _=>rfl,fun _ _=>rfl,fun _ _=>rfl⟩
instance:MkOk DDuty:=⟨fun _ _=>rfl,fun _ _=>rfl,fun _ _=>rfl⟩
open Go Go.RowKit
def News (h h':Hp) (f:List Nat):Prop:=(∀ b ∈ f,h b=none∧h' b ≠ none)∧f.Nodup
theorem News.append {h h1 h2:Hp} {f g:List Nat} (H:News h h1 f) (l1:h.le h1) (l2:h1.le h2) (K:News h1 h2 g):News h h2 (f ++ g):=by
 refine ⟨fun b hb=>?_,List.nodup_append.2 ⟨H.2,K.2,fun a ha b hb e=>?_⟩⟩
 ·rcases List.mem_append.1 hb with hb|hb
  ·refine ⟨(H.1 b hb).1,?_⟩
   cases hh:h1 b with
   | none=>exact ((H.1 b hb).2 hh).elim
   | some o=>rw [l2 b o hh];simp
  ·refine ⟨?_,(K.1 b hb).2⟩
   cases hh:h b with
   | none=>rfl
   | some o=>rw [← (K.1 b hb).1,l1 b o hh]
 ·subst e;exact (H.1 a ha).2 (K.1 a hb).1
theorem Mine.news {α:Type} [Enc α] [Foot α] {h h':Hp} {x:α} (H:Mine h h' x):News h h' (Foot.foot x):=⟨fun b hb=>⟨H.2.1 b hb,Foot.dom H.1 b hb⟩,H.2.2⟩
theorem News.mine {α:Type} [Enc α] [Foot α] {h h':Hp} {x:α} (ho:Foot.own h' x) (H:News h h' (Foot.foot x)):Mine h h' x:=⟨ho,fun b hb=>(H.1 b hb).1,H.2⟩
theorem ok_keep {α:Type} [Enc α] [Foot α] {h h':Hp} {x:α} {M:Nat→Prop} (hok:Enc.ok h x) (hown:Foot.own h x) (hM:∀ b ∈ Foot.foot x,¬ M b) (hk:∀ b o,h b=some o→¬ M b→h' b=some o):Enc.ok h' x∧Foot.own h' x :=
 Foot.loc hok hown fun b hb o ho=>hk b o ho (hM b hb)
open Go Go.RowKit
def rn:List Nat→Nat→Nat
 | [],_=>0
 | a :: _,0=>a
 | _ :: l,n+1=>rn l n
def SC.ren (l:List Nat):SC→SC
 | .v x=>.v x
 | .p r o=>.p (rn l r) o
 | .s r=>.s (rn l r)
def SV.ren (l:List Nat):SV→SV
 | .c x=>.c (x.ren l)
 | .g cs=>.g (cs.map (·.ren l))
def renE (l:List Nat):Env→Env
 | []=>[]
 | (t,c,sv) :: e=>(t,c,sv.ren l) :: renE l e
def PB.ren (l:List Nat):PB→PB
 | .box ty cs=>.box ty (cs.map (·.ren l))
 | .row e sz n xs=>.row e sz n xs
def renP (l:List Nat):List (Nat × PB)→List (Nat × PB)
 | []=>[]
 | (r,b) :: p=>(rn l r,b.ren l) :: renP l p
def zlV (n:Nat):List (Nat × PB)→Bool
 | []=>true
 | (r,_) :: p=>decide (r < n) && zlV n p
def St.leG (l:List Nat) (h0:Hp) (st st':St):Prop:=leE st.e (renE l st'.e)∧leP st.p (renP l st'.p)∧st'.h.le st.h∧h0.le st'.h∧st'.wf=true∧l.Nodup∧zlV l.length st'.p=true
section
variable {l:List Nat} {ρ:Rho}
theorem SC.ren_conc (x:SC):(x.ren l).conc ρ=x.conc (fun r=>ρ (rn l r)):=by cases x <;> rfl
theorem SV.ren_conc (x:SV):(x.ren l).conc ρ=x.conc (fun r=>ρ (rn l r)):=by
 cases x with
 | c x=>exact SC.ren_conc x
 | g cs=>simp only [SV.ren,zal,List.map_map];congr 2;exact List.map_congr_left fun x _=>SC.ren_conc x
theorem zlW {t:Nat} {c:Bool} {sv:SV}:∀ {e:Env},look t e=some (c,sv)→look t (renE l e)=some (c,sv.ren l)
 | [],h=>by cases h
 | (k,c',sv') :: e,h=>by
  simp only [renE,look] at h ⊢
  split at h
  ·rename_i hk;rw [if_pos hk];simp only [Option.some.injEq,Prod.mk.injEq] at h;rw [h.1,h.2]
  ·rename_i hk;rw [if_neg hk];exact zlW h
theorem zlX:∀ {l:List Nat} {r:Nat},r < l.length→l[r]?=some (rn l r)
 | [],r,h=>by simp at h
 | a :: l,0,_=>rfl
 | a :: l,r+1,h=>by simpa [rn] using zlX (l:=l) (r:=r) (by simpa using h)
theorem zlY (hn:l.Nodup) {r r':Nat} (hr:r < l.length) (hr':r' < l.length) (h:rn l r=rn l r'):r=r':=by
 have h1:=zlX hr
 have h2:=zlX hr'
 rw [h,← h2] at h1
 exact (List.getElem?_inj hr hn).1 h1
theorem zlZ (hn:l.Nodup) {r:Nat} {b:PB}:∀ {p:List (Nat × PB)},zlV l.length p=true→look r p=some b→r < l.length∧look (rn l r) (renP l p)=some (b.ren l)
 | [],_,h=>by cases h
 | (k,b') :: p,hl,h=>by
  simp only [zlV,jJ,decide_eq_true_eq] at hl
  simp only [renP,look] at h ⊢
  split at h
  ·rename_i hk;subst hk;simp only [Option.some.injEq] at h;rw [if_pos rfl,h];exact ⟨hl.1,rfl⟩
  ·rename_i hk
   obtain ⟨h1,h2⟩:=zlZ hn hl.2 h
   rw [if_neg (fun e=>hk (zlY hn hl.1 h1 e))]
   exact ⟨h1,h2⟩
theorem PB.ok_ren {W:World} {r:Nat} {b:PB} (h:(b.ren l).ok 0 ρ (rn l r) W):b.ok 0 (fun r=>ρ (rn l r)) r W:=by
 cases b with
 | box ty cs =>
  obtain ⟨g,h1,h2,h3⟩:=h
  refine ⟨g,h1,h2,?_⟩
  rw [h3,List.map_map]
  congr 3
  exact List.map_congr_left fun x _=>SC.ren_conc x
 | row=>exact h
theorem Conc.weakenG {W0:Base} {h0:Hp} {N:Nat} {st st':St} {a:Act} {W:World} (h:st.leG l h0 st') (hC:Conc W0 h0 N st a W):Conc W0 h0 N st' a W:=by
 obtain ⟨h1,h2,h3,h4,h5,h6,h7⟩:=h
 obtain ⟨ρ,hf,hW,hw⟩:=hC
 have hp:∀ r b,look r st'.p=some b→r < l.length∧look (rn l r) st.p=some (b.ren l):=fun r b hr=>by
  obtain ⟨k1,k2⟩:=zlZ h6 h7 hr
  exact ⟨k1,zdb h2 _ _ k2⟩
 refine ⟨fun r=>ρ (rn l r),⟨hf.1,hf.2.1,fun t c sv hl=>?_⟩,?_,h5⟩
 ·rw [hf.2.2 t c _ (zda h1 t _ (zlW hl)),SV.ren_conc]
 ·refine ⟨hW.below,fun b o hb=>hW.sees b o (h3 b o hb),fun b o hb _=>h4 b o hb,fun b o hb hn=>hW.new b o (h3 b o hb) hn,fun r b g hr hat=>?_,fun r b hr=>?_,fun r b g hr hat=>?_,fun r b r' b' g hr hr' hat hat'=>?_⟩
  ·exact hW.own (rn l r) _ g (hp r b hr).2 hat
  ·exact PB.ok_ren (hW.priv _ _ (hp r b hr).2)
  ·cases hh:st'.h g with
   | none=>rfl
   | some o=>have:=hW.apart (rn l r) _ g (hp r b hr).2 hat;rw [h3 g o hh] at this;cases this
  ·exact zlY h6 (hp r b hr).1 (hp r' b' hr').1 (hW.distinct _ _ _ _ g (hp r b hr).2 (hp r' b' hr').2 hat hat')
end
section
variable {x:Cx} {st:St} {Q:Exit→St→Prop}
theorem zl0 {ι:Type} {c:Code} (S:ι→St) (ok:ι→Prop) (m:ι→Nat) (i0:ι) (h0:ok i0) (l0:List Nat) (hle:st.leG l0 x.h0 (S i0))
  (hr:∀ i,ok i→T x (S i) c (zc1 (fun st'=>∃ j l,ok j∧m j < m i∧st'.leG l x.h0 (S j)) Q)):T x st (.loop c) Q:=by
 unfold T at *
 intro a W hC
 refine zdd (fun i a' W'=>ok i∧Conc x.W0 x.h0 x.N (S i) a' W') m ?_ i0 a W ⟨h0,hC.weakenG hle⟩
 rintro i a W ⟨hi,hC⟩
 refine Code.wp_mono ?_ (hr i hi a W hC)
 rintro e a' W' ⟨st',hq,hC'⟩
 cases e with
 | normal =>
  obtain ⟨j,l,hj,hlt,hle⟩:=hq
  exact ⟨j,hlt,hj,hC'.weakenG hle⟩
 | _=>exact ⟨st',hq,hC'⟩
end
section
variable {l:List Nat} {r o n t a:Nat} {c:Bool} {sv:SV} {e:Env} {p:List (Nat × PB)} {b:PB} {x:SC} {cs:List SC} {h0:Hp} {st st':St}
@[go_sem] theorem zl1:st.leG l h0 st'=(leE st.e (renE l st'.e)∧leP st.p (renP l st'.p)∧st'.h.le st.h∧h0.le st'.h∧st'.wf=true∧l.Nodup∧zlV l.length st'.p=true):=rfl
@[go_sem] theorem zl2:st.leF h0 st'=(leE st.e st'.e∧leP st.p st'.p∧st'.h.le st.h∧h0.le st'.h∧st'.wf=true):=rfl
@[go_sem] theorem zl3:rn (a :: l) 0=a:=rfl
@[go_sem] theorem zl4:rn (a :: l) (n+1)=rn l n:=rfl
@[go_sem] theorem zl5:renE l []=[]:=rfl
@[go_sem] theorem zl6:renE l ((t,c,sv) :: e)=(t,c,sv.ren l) :: renE l e:=rfl
@[go_sem] theorem zl7:renP l []=[]:=rfl
@[go_sem] theorem zl8:renP l ((r,b) :: p)=(rn l r,b.ren l) :: renP l p:=rfl
@[go_sem] theorem zl9:SV.ren l (.c x)=.c (x.ren l):=rfl
@[go_sem] theorem zma:SV.ren l (.g cs)=.g (cs.map (·.ren l)):=rfl
@[go_sem] theorem zmb {y:Value}:SC.ren l (.v y)=.v y:=rfl
@[go_sem] theorem zmc:SC.ren l (.s r)=.s (rn l r):=rfl
@[go_sem] theorem zmd:SC.ren l (.p r o)=.p (rn l r) o:=rfl
@[go_sem] theorem zme {ty:TypeId}:PB.ren l (.box ty cs)=.box ty (cs.map (·.ren l)):=rfl
@[go_sem] theorem zmf {e:TypeId} {sz n:Nat} {xs:List Value}:PB.ren l (.row e sz n xs)=.row e sz n xs:=rfl
@[go_sem] theorem zmg:zlV n []=true:=rfl
@[go_sem] theorem zmh:zlV n ((r,b) :: p)=(decide (r < n) && zlV n p):=rfl
@[go_sem] theorem zmi:([]:List Nat).Nodup=True:=eq_true List.nodup_nil
@[go_sem] theorem zmj:[a].Nodup=True:=eq_true (by simp)
@[go_sem] theorem zmk:(a :: l).Nodup=(a ∉ l∧l.Nodup):=by simp
@[go_sem] theorem zml {h:Hp}:h.le h=True:=eq_true (Hp.le_refl h)
@[go_sem] theorem zmm:([]:List Nat).length=0:=rfl
@[go_sem] theorem zmn:(a :: l).length=l.length+1:=rfl
end
open Go Go.RowKit
theorem Ct.forget {P:Program} {f:FuncId} {args:List Value} {h:Hp} {p:Value→Prop} (H:Ct P f args h fun v _=>p v):Ct P f args h fun v h'=>p v∧h'=h:=by
 unfold Ct at *
 exact ⟨H.1,fun W hs=>(H.2 W hs).mono fun _ _ ⟨v,h',he,r,b,l,s,n⟩=>⟨v,h,he,⟨r,rfl⟩,b,Hp.le_refl _,fun b o hb=>s b o (l b o hb),fun b o h1 h2=>by rw [h1] at h2;cases h2⟩⟩
theorem zmo {α:Type} [Enc α] {h:Hp}:(⟨none,0,[]⟩:Sl α).Ok h:=⟨Nat.le_refl _,fun h=>(h rfl).elim,fun i x hx=>(by cases hx),fun x hx=>(by cases hx),Nat.zero_le _⟩
@[go_sem] theorem zmr {a b:ByteArray}:(a.toList == b.toList)=decide (a=b):=by
 rw [ByteArray.toList_eq,ByteArray.toList_eq]
 by_cases h:a=b
 ·subst h;simp
 ·rw [decide_eq_false h]
  exact beq_eq_false_iff_ne.2 fun e=>h (WideShapes.bytes_inj e)
def zms (s:ByteArray) (k:Nat):Int:=((s[k]?).getD 0).toNat
@[go_sem] theorem zmt {P:Program} {g:Bool} {t:TypeId} {s:ByteArray} {i:SV} {L:SV→Prop} (ht:arrT P t=none):zbj P g t (.c (.v (.string s))) i L=((g=true→∃ k,Value.isI k i.val)∧strT P t=true∧(g=true→0≤Value.I i.val∧Value.I i.val < s.size)∧L (.c (.v (.int .u8 (zms s (Value.I i.val).toNat))))):=by
 unfold zbj
 rw [ht]
 simp [Value.isS,SV.val,SC.val,Value.S,zms]
class Sz (β:Type) where
 sz:β→Nat
instance:Sz Int:=⟨fun _=>0⟩
instance:Sz Bool:=⟨fun _=>0⟩
instance:Sz ByteArray:=⟨fun s=>s.size⟩
instance {β:Type} [Sz β]:Sz (List β):=⟨fun l=>l.length+(l.map Sz.sz).sum⟩
theorem zmu {β:Type} [Sz β] {l:List β}:Sz.sz l=l.length+(l.map Sz.sz).sum:=rfl
class BlkCon (α:Type) (β:outParam Type) [Blk α] [Con α β] [Sz β]:Prop where
 eq:∀ x:α,Blk.blk x=Sz.sz (Con.con x)
instance:BlkCon Int Int:=⟨fun _=>rfl⟩
instance:BlkCon Bool Bool:=⟨fun _=>rfl⟩
instance:BlkCon ByteArray ByteArray:=⟨fun _=>rfl⟩
instance {α β:Type} [Blk α] [Con α β] [Sz β] [BlkCon α β]:BlkCon (Sl α) (List β):=⟨fun s=>by
 rw [zkt,zmu,zkq,List.length_map,List.map_map]
 congr 2
 exact List.map_congr_left fun x _=>BlkCon.eq x⟩
theorem zPE {α β:Type} [Blk α] [Con α β] [Sz β] [BlkCon α β] {a s:α} (h:Con.con s=Con.con a) {n:Nat} (hb:Blk.blk a≤n):Sz.sz (Con.con s)≤n:=by
 rw [h,← BlkCon.eq];exact hb
instance:Sz DCall:=⟨fun _=>0⟩
instance:BlkCon DCall DCall:=⟨fun _=>rfl⟩
instance:Sz DPassage:=⟨fun _=>0⟩
instance:BlkCon DPassage DPassage:=⟨fun _=>rfl⟩
instance:Sz z1B:=⟨fun c=>Sz.sz c.pas⟩
instance:BlkCon DOption z1B:=⟨fun c=>by
 rw [zkB]
 show _=Sz.sz (Con.con c.pas)
 simp only [BlkCon.eq]⟩
instance:Sz PCrew:=⟨fun c=>Sz.sz c.moves⟩
theorem z1D {c:PCrew}:Sz.sz c=Sz.sz c.moves:=rfl
instance:BlkCon DCrew PCrew:=⟨fun c=>by
 rw [zkF]
 show _=Sz.sz (Con.con c.moves)
 simp only [BlkCon.eq]⟩
instance:Sz DPart:=⟨fun _=>0⟩
instance:BlkCon DPart DPart:=⟨fun _=>rfl⟩
instance:Sz PTide:=⟨fun c=>Sz.sz c.parts⟩
theorem z1E {c:PTide}:Sz.sz c=Sz.sz c.parts:=rfl
instance:BlkCon DTide PTide:=⟨fun c=>by
 rw [zkK]
 show _=Sz.sz (Con.con c.parts)
 simp only [BlkCon.eq]⟩
instance:Sz DSurge:=⟨fun _=>0⟩
instance:BlkCon DSurge DSurge:=⟨fun _=>rfl⟩
instance:Sz PForecast:=⟨fun c=>Sz.sz c.tide+Sz.sz c.surges⟩
theorem z1F {c:PForecast}:Sz.sz c=Sz.sz c.tide+Sz.sz c.surges:=rfl
instance:BlkCon DForecast PForecast:=⟨fun c=>by
 rw [zkP]
 show _=Sz.sz (Con.con c.tide)+Sz.sz (Con.con c.surges)
 simp only [BlkCon.eq]⟩
instance:Sz DPoint:=⟨fun c=>Sz.sz c.name⟩
instance:BlkCon DPoint DPoint:=⟨fun c=>by
 rw [zkR]
 show _=Sz.sz (Con.con c.name)
 simp only [BlkCon.eq]⟩
instance:Sz DSegment:=⟨fun _=>0⟩
instance:BlkCon DSegment DSegment:=⟨fun _=>rfl⟩
instance:Sz PChart:=⟨fun c=>Sz.sz c.points+Sz.sz c.segments⟩
theorem z1G {c:PChart}:Sz.sz c=Sz.sz c.points+Sz.sz c.segments:=rfl
instance:BlkCon DChart PChart:=⟨fun c=>by
 rw [zkX]
 show _=Sz.sz (Con.con c.points)+Sz.sz (Con.con c.segments)
 simp only [BlkCon.eq]⟩
instance:Sz DShip:=⟨fun c=>Sz.sz c.name⟩
instance:BlkCon DShip DShip:=⟨fun c=>by
 rw [zkZ]
 show _=Sz.sz (Con.con c.name)
 simp only [BlkCon.eq]⟩
instance:Sz DRegime:=⟨fun _=>0⟩
instance:BlkCon DRegime DRegime:=⟨fun _=>rfl⟩
instance:Sz PHarbour:=⟨fun c=>Sz.sz c.forecast+Sz.sz c.chart+Sz.sz c.fleet+Sz.sz c.crew⟩
theorem z1H {c:PHarbour}:Sz.sz c=Sz.sz c.forecast+Sz.sz c.chart+Sz.sz c.fleet+Sz.sz c.crew:=rfl
instance:BlkCon DHarbour PHarbour:=⟨fun c=>by
 rw [zk4]
 show _=Sz.sz (Con.con c.forecast)+Sz.sz (Con.con c.chart)+Sz.sz (Con.con c.fleet)+Sz.sz (Con.con c.crew)
 simp only [BlkCon.eq]⟩
instance:Sz zk6:=⟨fun c=>Sz.sz c.plan⟩
instance:BlkCon DBranch zk6:=⟨fun c=>by
 rw [zk7]
 show _=Sz.sz (Con.con c.plan)
 simp only [BlkCon.eq]⟩
instance:Sz zk9:=⟨fun c=>Sz.sz c.branches⟩
instance:BlkCon DStrategy zk9:=⟨fun c=>by
 rw [zla]
 show _=Sz.sz (Con.con c.branches)
 simp only [BlkCon.eq]⟩
instance:Sz DWindow:=⟨fun _=>0⟩
instance:BlkCon DWindow DWindow:=⟨fun _=>rfl⟩
instance:Sz DDuty:=⟨fun _=>0⟩
instance:BlkCon DDuty DDuty:=⟨fun _=>rfl⟩
open Go Go.RowKit
theorem zmx {h h':Hp} {b:Nat} (hle:h.le h') (hn:h' b=none):h b=none:=by
 cases hh:h b with
 | none=>rfl
 | some o=>rw [← hn,hle b o hh]
theorem zPF {α:Type} [Enc α] [Foot α] {h h':Hp} {x:α} (hle:h.le h') (ok:Enc.ok h x) (ow:Foot.own h x):Foot.own h' x:=(Foot.loc ok ow fun b _ o ho=>hle b o ho).2
theorem zPG {h0 h h':Hp} {f:List Nat} (hle:h0.le h) (hM:∀ b ∈ f,h0 b=none) (hk:∀ b o,h b=some o→¬ (b ∈ f)→h' b=some o):h0.le h':=fun b o hb =>
 hk b o (hle b o hb) fun hm=>by rw [hM b hm] at hb;cases hb
class MkSz (α:Type) {β:outParam Type} [Mk α] [Con α β] [Sz β]:Prop where
 le:∀ x:α,Mk.cnt x≤6+6 * Sz.sz (Con.con x)
instance:MkSz Int:=⟨fun x=>by show 1≤_;omega⟩
theorem zmy {α β:Type} [Mk α] [Con α β] [Sz β] [MkSz α]:∀ l:List α,cntL l≤6 * (l.length+((l.map Con.con).map Sz.sz).sum)
 | []=>Nat.zero_le _
 | x :: l=>by
  have h1:=zmy l
  have h2:=MkSz.le x
  rw [zlF]
  simp only [List.length_cons,List.map_cons,List.sum_cons]
  omega
instance {α β:Type} [Mk α] [Con α β] [Sz β] [MkSz α]:MkSz (Sl α):=⟨fun s=>by
 have:=zmy s.l
 rw [zkq,zmu,List.length_map]
 show cntL s.l≤_
 omega⟩
instance:MkSz DCall:=⟨fun x=>by show 5≤_;omega⟩
instance:MkSz DPassage:=⟨fun x=>by show 5≤_;omega⟩
instance:MkSz DPart:=⟨fun x=>by show 3≤_;omega⟩
instance:MkSz DSurge:=⟨fun x=>by show 3≤_;omega⟩
instance:MkSz DPoint:=⟨fun x=>by show 2≤_;omega⟩
instance:MkSz DSegment:=⟨fun x=>by show 5≤_;omega⟩
instance:MkSz DShip:=⟨fun x=>by show 6≤_;omega⟩
instance:MkSz DWindow:=⟨fun x=>by show 2≤_;omega⟩
instance:MkSz DDuty:=⟨fun x=>by show 4≤_;omega⟩
theorem zmz {α β:Type} [Mk α] [Con α β] [Sz β] [MkSz α] (s:Sl α):Mk.cnt s≤6 * Sz.sz (Con.con s):=by
 have:=zmy s.l
 rw [zkq,zmu,List.length_map]
 exact this
instance:MkSz DOption:=⟨fun x=>by
 have:=zmz x.pas
 show 3+Mk.cnt x.pas≤6+6 * Sz.sz (Con.con x.pas)
 omega⟩
instance:MkSz DBranch:=⟨fun x=>by
 have:=zmz x.plan
 show 2+Mk.cnt x.plan≤6+6 * Sz.sz (Con.con x.plan)
 omega⟩
theorem zPI {α:Type} [Mk α] (s:Sl α) (k:Int):(Mk.put s k).val=s.val:=by
 show Value.slice s.a (mkL s.l k).length s.cap=_
 rw [zlG];rfl
open Go Go.RowKit
theorem zPJ {α β:Type} [Mk α] [Con α β] [Sz β] [MkSz α] (s:Sl α):Mk.cnt s≤6 * Sz.sz (Con.con s):=zmz s
theorem zPO (c:DCrew) (k:Int):Foot.foot (zPs c k)=Foot.foot c:=by simp only [zPg,zPs,MkOk.foot]
theorem z1I (c:DCrew) (k:Int):zPt (zPs c k)=zPt c:=by simp only [zPt,zPs,MkOk.cnt]
theorem z1J (c:DCrew) (k:Int):zPs (zPs c k) k=zPs c k:=by simp only [zPs,MkOk.idem,MkOk.cnt]
theorem zPP (c:DCrew):zPt c≤6 * Sz.sz (Con.con c):=by
 have h0:=zPJ c.moves
 have he:Sz.sz (Con.con c)=Sz.sz (Con.con c.moves):=rfl
 simp only [zPt]
 omega
theorem zPQ (c:DTide) (k:Int):Foot.foot (zPu c k)=Foot.foot c:=by simp only [zPi,zPu,MkOk.foot]
theorem z1K (c:DTide) (k:Int):zPv (zPu c k)=zPv c:=by simp only [zPv,zPu,MkOk.cnt]
theorem z1L (c:DTide) (k:Int):zPu (zPu c k) k=zPu c k:=by simp only [zPu,MkOk.idem,MkOk.cnt]
theorem zPR (c:DTide):zPv c≤6 * Sz.sz (Con.con c):=by
 have h0:=zPJ c.parts
 have he:Sz.sz (Con.con c)=Sz.sz (Con.con c.parts):=rfl
 simp only [zPv]
 omega
theorem zPS (c:DForecast) (k:Int):Foot.foot (zPw c k)=Foot.foot c:=by simp only [zPk,zPw,MkOk.foot,zPQ]
theorem z1M (c:DForecast) (k:Int):zPx (zPw c k)=zPx c:=by simp only [zPx,zPw,MkOk.cnt,z1K]
theorem z1N (c:DForecast) (k:Int):zPw (zPw c k) k=zPw c k:=by simp only [zPw,MkOk.idem,MkOk.cnt,z1L,z1K]
theorem zPT (c:DForecast):zPx c≤6 * Sz.sz (Con.con c):=by
 have h0:=zPR c.tide
 have h1:=zPJ c.surges
 have he:Sz.sz (Con.con c)=Sz.sz (Con.con c.tide)+Sz.sz (Con.con c.surges):=rfl
 simp only [zPx]
 omega
theorem zPU (c:DChart) (k:Int):Foot.foot (zPy c k)=Foot.foot c:=by simp only [zPm,zPy,MkOk.foot]
theorem z1O (c:DChart) (k:Int):zPz (zPy c k)=zPz c:=by simp only [zPz,zPy,MkOk.cnt]
theorem z1P (c:DChart) (k:Int):zPy (zPy c k) k=zPy c k:=by simp only [zPy,MkOk.idem,MkOk.cnt]
theorem zPV (c:DChart):zPz c≤6 * Sz.sz (Con.con c):=by
 have h0:=zPJ c.points
 have h1:=zPJ c.segments
 have he:Sz.sz (Con.con c)=Sz.sz (Con.con c.points)+Sz.sz (Con.con c.segments):=rfl
 simp only [zPz]
 omega
theorem zPW (c:DHarbour) (k:Int):Foot.foot (zPA c k)=Foot.foot c:=by simp only [zPo,zPA,MkOk.foot,zPS,zPU,zPO]
theorem z1Q (c:DHarbour) (k:Int):zPB (zPA c k)=zPB c:=by simp only [zPB,zPA,MkOk.cnt,z1M,z1O,z1I]
theorem z1R (c:DHarbour) (k:Int):zPA (zPA c k) k=zPA c k:=by simp only [zPA,MkOk.idem,MkOk.cnt,z1N,z1M,z1P,z1O,z1J,z1I]
theorem zPX (c:DHarbour):zPB c≤6 * Sz.sz (Con.con c):=by
 have h0:=zPT c.forecast
 have h1:=zPV c.chart
 have h2:=zPJ c.fleet
 have h3:=zPP c.crew
 have he:Sz.sz (Con.con c)=Sz.sz (Con.con c.forecast)+Sz.sz (Con.con c.chart)+Sz.sz (Con.con c.fleet)+Sz.sz (Con.con c.crew):=rfl
 simp only [zPB]
 omega
theorem zPY {s:DHarbour} {c:PHarbour} {n:Nat} (e:Con.con s=c) (h:Sz.sz c≤n):zPB s≤6 * n:=by
 have:=zPX s
 rw [e] at this
 omega
theorem Wk {P Q:Prop} (q:Q) (t:Q→P:=by (intro zq;(repeat' first|refine zie rfl ?_|refine zc4 rfl ?_|refine zc7 ?_|refine zc8 ?_|refine zc5 ?_|refine zc6 ?_|(simp (maxSteps:=2000000) only [go_sem,jq,jj,jy,jv,jk,jx];try rfl)|refine zc3 ?_|(refine And.intro ?_ ?_;focus (intros;clear zq;simp_all only [jp,jQ,jJ,and_self,true_and,and_true];done)));exact zq;done)):P:=t q
theorem Wk0 {P:Prop} (t:P:=by ((repeat' first|refine zie rfl ?_|refine zc4 rfl ?_|refine zc7 ?_|refine zc8 ?_|refine zc5 ?_|refine zc6 ?_|(simp (maxSteps:=2000000) only [go_sem,jq,jj,jy,jv,jk,jx];try rfl)|refine zc3 ?_|(refine And.intro ?_ ?_;focus (intros;simp_all only [jp,jQ,jJ,and_self,true_and,and_true];done)));done)):P:=t
theorem Evs {P Q:Prop} (q:Q) (t:Q→P:=by (intro zq;(simp (maxSteps:=2000000) only [go_sem,jq,jj,jy,jv,jk,jx]);exact zq;done)):P:=t q
theorem Evc {P:Prop} (t:P:=by (simp (maxSteps:=2000000) only [go_sem,jq,jj,jy,jv,jk,jx];done)):P:=t
class St1 (x:Cx) (st:St) (c:Code) (Q:Exit→St→Prop) (P:outParam Prop):Prop where
 go:P→T x st c Q
instance {x:Cx} {st:St} {Q:Exit→St→Prop}:St1 x st .ret Q (Q .ret st):=⟨zc7⟩
instance {x:Cx} {st:St} {Q:Exit→St→Prop} {id:Nat} {c:Code}:St1 x st (.block id c) Q (T x st c (zc2 id Q)):=⟨zc8⟩
instance {x:Cx} {st:St} {Q:Exit→St→Prop}:St1 x st .skip Q (Q .normal st):=⟨zc5⟩
instance {x:Cx} {st:St} {Q:Exit→St→Prop} {id:Nat}:St1 x st (.exit id) Q (Q (.exit id) st):=⟨zc6⟩
theorem Wa {P Q:Prop} (q:Q) (t:Q→P:=by (intro zq;(first|refine zie rfl ?_|refine zc4 rfl ?_|refine St1.go ?_|fail);exact zq)):P:=t q
theorem Wb {P Q:Prop} (q:Q) (t:Q→P:=by (intro zq;(first|refine zc3 ?_|(refine And.intro ?_ ?_;focus (intros;clear zq;simp_all only [jp,jQ,jJ,and_self,true_and,and_true];(first|done|fail)))|fail);exact zq)):P:=t q
theorem Gk {P:Prop} (t:P:=by (repeat' first|exact rfl|exact trivial|assumption|decide|refine And.intro ?_ ?_)):P:=t
end Go.SL
