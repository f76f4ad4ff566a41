/- Plain theorems about the model. -/
import Derived.Laws.BytesString
import Derived.Laws.Strings
import Derived.WideShapes
import Derived.Test.YtdeflkhkfmjckaaGreatSGFnTopx3
set_option linter.unusedVariables false
set_option linter.unusedSimpArgs false
set_option maxRecDepth 4000
open Nat renaming reduceAdd → jq, reduceMul → jj, reduceBEq → jy, reduceLeDiff → jv, reduceLT → jk, reduceEqDiff → jx
open Bool renaming or_eq_false_iff → jp, or_eq_true → jQ, and_eq_true → jJ
open Int renaming toNat_natCast → jW, natCast_nonneg → jY
namespace Go.SL
open Go Go.RowKit
theorem fld {α:Type} [Enc α] {h:Hp} {s:Sl α} (H:s.Ok h) {i:Nat} (hi:i < s.l.length) (f:Nat) {v:Value} (hv:(Enc.enc s.l[i])[f]?=some v):h.lds (Option.map (fun x=>x.add f) (Option.map (fun x=>x.add (i * Enc.size α)) s.a)) 1=some [v]:=by
 have h1:=H.at hi
 obtain ⟨a,ha⟩:=Option.isSome_iff_exists.1 (H.some hi)
 rw [ha] at h1 ⊢
 have h2:=(zac (show h.cellsAt (a.add (i * Enc.size α)) 0 _=some _ from h1)).2 f v hv
 refine zad rfl fun j u hj=>?_
 cases j with
 | zero=>simp only [List.getElem?_cons_zero,Option.some.injEq] at hj;subst hj;rw [Nat.zero_add] at h2;simpa [zir] using h2
 | succ j=>simp at hj
theorem fld0 {α:Type} [Enc α] {h:Hp} {s:Sl α} (H:s.Ok h) {i:Nat} (hi:i < s.l.length) {v:Value} (hv:(Enc.enc s.l[i])[0]?=some v):h.lds (Option.map (fun x=>x) (Option.map (fun x=>x.add (i * Enc.size α)) s.a)) 1=some [v]:=by
 have:=fld H hi 0 hv
 have e:(fun x:Addr=>x.add 0)=fun x=>x:=by funext x;simp [Addr.add]
 rwa [e] at this
theorem fldS {α:Type} [Enc α] {h:Hp} {s:Sl α} (H:s.Ok h) {i:Nat} (hi:i < s.l.length) (f:Nat) (hf:f ≠ 0) {v:Value} (hv:(Enc.enc s.l[i])[f]?=some v):h.lds (Option.map (fun x=>{ block:=x.block,off:=x.off+f }) (Option.map (fun x=>x.add (i * Enc.size α)) s.a)) 1=some [v]:=by
 have:=fld H hi f hv
 have e:(fun x:Addr=>x.add f)=fun x=>{ block:=x.block,off:=x.off+f }:=by funext x;simp [Addr.add,hf]
 rwa [e] at this
class MkOk (α:Type) [Enc α] [Foot α] [Mk α]:Prop where
 foot:∀ (x:α) (k:Int),Foot.foot (Mk.put x k)=Foot.foot x
 cnt:∀ (x:α) (k:Int),Mk.cnt (Mk.put x k)=Mk.cnt x
 idem:∀ (x:α) (k:Int),Mk.put (Mk.put x k) k=Mk.put x k
section
variable {α:Type} [Enc α] [Foot α] [Mk α] [MkOk α]
theorem zlK:∀ {l:List α} {k:Int},(mkL l k).flatMap Foot.foot=l.flatMap Foot.foot
 | [],_=>rfl
 | x :: l,k=>by rw [mkL,List.flatMap_cons,List.flatMap_cons,MkOk.foot,zlK]
theorem zlL:∀ {l:List α} {k:Int},cntL (mkL l k)=cntL l
 | [],_=>rfl
 | x :: l,k=>by rw [mkL,zlF,zlF,MkOk.cnt,zlL]
theorem zlM:∀ {l:List α} {k:Int},mkL (mkL l k) k=mkL l k
 | [],_=>rfl
 | x :: l,k=>by rw [mkL,mkL,MkOk.idem,MkOk.cnt,zlM]
end
instance:MkOk Int:=⟨fun _ _=>rfl,fun _ _=>rfl,fun _ _=>rfl⟩
instance {α:Type} [Enc α] [Foot α] [Mk α] [MkOk α]:MkOk (Sl α):=⟨fun x k=>by
  by_cases hl:x.l=[]
  ·rw [show Foot.foot x=[] from Sl.foot_nil hl];exact Sl.foot_nil (by show mkL x.l k=[];rw [hl];rfl)
  ·have hl':(Mk.put x k).l ≠ []:=fun e=>hl (List.length_eq_zero_iff.1 (by rw [← zlG (k:=k),show mkL x.l k=[] from e];rfl))
   rw [show Foot.foot x=_ from Sl.foot_ne hl,show Foot.foot (Mk.put x k)=_ from Sl.foot_ne hl']
   show x.blkOf :: (mkL x.l k).flatMap Foot.foot=_
   rw [zlK],
 fun x k=>zlL,fun x k=>by show (⟨x.a,x.cap,mkL (mkL x.l k) k⟩:Sl α)=_;rw [zlM];rfl⟩
instance:MkOk DCall:=⟨fun _ _=>rfl,fun _ _=>rfl,fun _ _=>rfl⟩
theorem zlO {h:Hp} {s:Sl DPassage} (H:s.Ok h) {i:Nat} (hi:i < s.l.length):h.lds (Option.map (fun x=>x) (Option.map (fun x=>x.add (i * 5)) s.a)) 1=some [.int .i64 s.l[i].ship]∧h.lds (Option.map (fun x=>{ block:=x.block,off:=x.off+1 }) (Option.map (fun x=>x.add (i * 5)) s.a)) 1=some [.int .i64 s.l[i].seg]∧h.lds (Option.map (fun x=>{ block:=x.block,off:=x.off+2 }) (Option.map (fun x=>x.add (i * 5)) s.a)) 1=some [.bool s.l[i].toward]∧h.lds (Option.map (fun x=>{ block:=x.block,off:=x.off+3 }) (Option.map (fun x=>x.add (i * 5)) s.a)) 1=some [.int .i64 s.l[i].start]∧h.lds (Option.map (fun x=>{ block:=x.block,off:=x.off+4 }) (Option.map (fun x=>x.add (i * 5)) s.a)) 1=some [.int .i64 s.l[i].fin]:=⟨fld0 H hi rfl,fldS H hi 1 (by decide) rfl,fldS H hi 2 (by decide) rfl,fldS H hi 3 (by decide) rfl,fldS H hi 4 (by decide) rfl⟩
instance:MkOk DPassage:=⟨fun _ _=>rfl,fun _ _=>rfl,fun _ _=>rfl⟩
theorem zlP {h:Hp} {s:Sl DOption} (H:s.Ok h) {i:Nat} (hi:i < s.l.length):h.lds (Option.map (fun x=>x) (Option.map (fun x=>x.add (i * 4)) s.a)) 1=some [.int .i64 s.l[i].start]∧h.lds (Option.map (fun x=>{ block:=x.block,off:=x.off+1 }) (Option.map (fun x=>x.add (i * 4)) s.a)) 1=some [.int .i64 s.l[i].arr]∧h.lds (Option.map (fun x=>{ block:=x.block,off:=x.off+2 }) (Option.map (fun x=>x.add (i * 4)) s.a)) 1=some [.int .i64 s.l[i].cost]∧h.lds (Option.map (fun x=>{ block:=x.block,off:=x.off+3 }) (Option.map (fun x=>x.add (i * 4)) s.a)) 1=some [s.l[i].pas.val]:=⟨fld0 H hi rfl,fldS H hi 1 (by decide) rfl,fldS H hi 2 (by decide) rfl,fldS H hi 3 (by decide) rfl⟩
instance:MkOk DOption:=⟨fun x k=>MkOk.foot x.pas _,fun x k=>congrArg (3+·) (MkOk.cnt x.pas _),fun x k=>by
 show DOption.mk _ _ _ _=DOption.mk _ _ _ _
 congr 1
 exact MkOk.idem x.pas _⟩
instance:MkOk DCrew:=⟨fun x k=>MkOk.foot x.moves _,fun x k=>congrArg (3+·) (MkOk.cnt x.moves _),fun x k=>by
 show DCrew.mk _ _ _ _=DCrew.mk _ _ _ _
 congr 1
 exact MkOk.idem x.moves _⟩
instance:MkOk DPart:=⟨fun _ _=>rfl,fun _ _=>rfl,fun _ _=>rfl⟩
instance:MkOk DTide:=⟨fun x k=>MkOk.foot x.parts _,fun x k=>congrArg (1+·) (MkOk.cnt x.parts _),fun x k=>by
 show DTide.mk _ _=DTide.mk _ _
 congr 1
 exact MkOk.idem x.parts _⟩
theorem zlQ {h:Hp} {s:Sl DSurge} (H:s.Ok h) {i:Nat} (hi:i < s.l.length):h.lds (Option.map (fun x=>x) (Option.map (fun x=>x.add (i * 3)) s.a)) 1=some [.int .i64 s.l[i].src]∧h.lds (Option.map (fun x=>{ block:=x.block,off:=x.off+1 }) (Option.map (fun x=>x.add (i * 3)) s.a)) 1=some [.int .i64 s.l[i].low]∧h.lds (Option.map (fun x=>{ block:=x.block,off:=x.off+2 }) (Option.map (fun x=>x.add (i * 3)) s.a)) 1=some [.int .i64 s.l[i].high]:=⟨fld0 H hi rfl,fldS H hi 1 (by decide) rfl,fldS H hi 2 (by decide) rfl⟩
instance:MkOk DSurge:=⟨fun _ _=>rfl,fun _ _=>rfl,fun _ _=>rfl⟩
theorem zlR {h:Hp} {s:Sl DPoint} (H:s.Ok h) {i:Nat} (hi:i < s.l.length):h.lds (Option.map (fun x=>x) (Option.map (fun x=>x.add (i * 2)) s.a)) 1=some [.string s.l[i].name]∧h.lds (Option.map (fun x=>{ block:=x.block,off:=x.off+1 }) (Option.map (fun x=>x.add (i * 2)) s.a)) 1=some [.bool s.l[i].wait]:=⟨fld0 H hi rfl,fldS H hi 1 (by decide) rfl⟩
instance:MkOk DPoint:=⟨fun _ _=>rfl,fun _ _=>rfl,fun _ _=>rfl⟩
theorem zlS {h:Hp} {s:Sl DSegment} (H:s.Ok h) {i:Nat} (hi:i < s.l.length):h.lds (Option.map (fun x=>x) (Option.map (fun x=>x.add (i * 5)) s.a)) 1=some [.int .i64 s.l[i].a]∧h.lds (Option.map (fun x=>{ block:=x.block,off:=x.off+1 }) (Option.map (fun x=>x.add (i * 5)) s.a)) 1=some [.int .i64 s.l[i].b]∧h.lds (Option.map (fun x=>{ block:=x.block,off:=x.off+2 }) (Option.map (fun x=>x.add (i * 5)) s.a)) 1=some [.int .i64 s.l[i].depth]∧h.lds (Option.map (fun x=>{ block:=x.block,off:=x.off+3 }) (Option.map (fun x=>x.add (i * 5)) s.a)) 1=some [.int .i64 s.l[i].minutes]∧h.lds (Option.map (fun x=>{ block:=x.block,off:=x.off+4 }) (Option.map (fun x=>x.add (i * 5)) s.a)) 1=some [.bool s.l[i].meet]:=⟨fld0 H hi rfl,fldS H hi 1 (by decide) rfl,fldS H hi 2 (by decide) rfl,fldS H hi 3 (by decide) rfl,fldS H hi 4 (by decide) rfl⟩
instance:MkOk DSegment:=⟨fun _ _=>rfl,fun _ _=>rfl,fun _ _=>rfl⟩
theorem zlT {h:Hp} {s:Sl DShip} (H:s.Ok h) {i:Nat} (hi:i < s.l.length):h.lds (Option.map (fun x=>x) (Option.map (fun x=>x.add (i * 6)) s.a)) 1=some [.string s.l[i].name]∧h.lds (Option.map (fun x=>{ block:=x.block,off:=x.off+1 }) (Option.map (fun x=>x.add (i * 6)) s.a)) 1=some [.int .i64 s.l[i].length]∧h.lds (Option.map (fun x=>{ block:=x.block,off:=x.off+2 }) (Option.map (fun x=>x.add (i * 6)) s.a)) 1=some [.int .i64 s.l[i].draught]∧h.lds (Option.map (fun x=>{ block:=x.block,off:=x.off+3 }) (Option.map (fun x=>x.add (i * 6)) s.a)) 1=some [.int .i64 s.l[i].line]∧h.lds (Option.map (fun x=>{ block:=x.block,off:=x.off+4 }) (Option.map (fun x=>x.add (i * 6)) s.a)) 1=some [.int .i64 s.l[i].tugs]∧h.lds (Option.map (fun x=>{ block:=x.block,off:=x.off+5 }) (Option.map (fun x=>x.add (i * 6)) s.a)) 1=some [.bool s.l[i].slow]:=⟨fld0 H hi rfl,fldS H hi 1 (by decide) rfl,fldS H hi 2 (by decide) rfl,fldS H hi 3 (by decide) rfl,fldS H hi 4 (by decide) rfl,fldS H hi 5 (by decide) rfl⟩
instance:MkOk DShip:=⟨fun _ _=>rfl,fun _ _=>rfl,fun _ _=>rfl⟩
instance:MkOk DRegime:=⟨fun _ _=>rfl,fun _ _=>rfl,fun _ _=>rfl⟩
instance:MkOk DBranch:=⟨fun x k=>MkOk.foot x.plan _,fun x k=>congrArg (2+·) (MkOk.cnt x.plan _),fun x k=>by
 show DBranch.mk _ _ _=DBranch.mk _ _ _
 congr 1
 exact MkOk.idem x.plan _⟩
instance:MkOk DStrategy:=⟨fun x k=>MkOk.foot x.branches _,fun x k=>congrArg (1+·) (MkOk.cnt x.branches _),fun x k=>by
 show DStrategy.mk _ _=DStrategy.mk _ _
 congr 1
 exact MkOk.idem x.branches _⟩
theorem zlU {h:Hp} {s:Sl DWindow} (H:s.Ok h) {i:Nat} (hi:i < s.l.length):h.lds (Option.map (fun x=>x) (Option.map (fun x=>x.add (i * 2)) s.a)) 1=some [.int .i64 s.l[i].src]∧h.lds (Option.map (fun x=>{ block:=x.block,off:=x.off+1 }) (Option.map (fun x=>x.add (i * 2)) s.a)) 1=some [.int .i64 s.l[i].dst]:=⟨fld0 H hi rfl,fldS H hi 1 (by decide) rfl⟩
instance:MkOk DWindow:=⟨fun _ _=>rfl,fun _ _=>rfl,fun _ _=>rfl⟩
instance:MkOk DDuty:=⟨fun _ _=>rfl,fun _ _=>rfl,fun _ _=>rfl⟩
open Go Go.RowKit
def News (h h':Hp) (f:List Nat):Prop:=(∀ b ∈ f,h b=none∧h' b ≠ none)∧f.Nodup
theorem News.append {h h1 h2:Hp} {f g:List Nat} (H:News h h1 f) (l1:h.le h1) (l2:h1.le h2) (K:News h1 h2 g):News h h2 (f ++ g):=by
 refine ⟨fun b hb=>?_,List.nodup_append.2 ⟨H.2,K.2,fun a ha b hb e=>?_⟩⟩
 ·rcases List.mem_append.1 hb with hb|hb
  ·refine ⟨(H.1 b hb).1,?_⟩
   cases hh:h1 b with
   | none=>exact ((H.1 b hb).2 hh).elim
   | some o=>rw [l2 b o hh];simp
  ·refine ⟨?_,(K.1 b hb).2⟩
   cases hh:h b with
   | none=>rfl
   | some o=>rw [← (K.1 b hb).1,l1 b o hh]
 ·subst e;exact (H.1 a ha).2 (K.1 a hb).1
theorem News.mine {α:Type} [Enc α] [Foot α] {h h':Hp} {x:α} (ho:Foot.own h' x) (H:News h h' (Foot.foot x)):Mine h h' x:=⟨ho,fun b hb=>(H.1 b hb).1,H.2⟩
theorem ok_keep {α:Type} [Enc α] [Foot α] {h h':Hp} {x:α} {M:Nat→Prop} (hok:Enc.ok h x) (hown:Foot.own h x) (hM:∀ b ∈ Foot.foot x,¬ M b) (hk:∀ b o,h b=some o→¬ M b→h' b=some o):Enc.ok h' x∧Foot.own h' x :=
 Foot.loc hok hown fun b hb o ho=>hk b o ho (hM b hb)
open Go Go.RowKit
def rn:List Nat→Nat→Nat
 | [],_=>0
 | a :: _,0=>a
 | _ :: l,n+1=>rn l n
def SC.ren (l:List Nat):SC→SC
 | .v x=>.v x
 | .p r o=>.p (rn l r) o
 | .s r=>.s (rn l r)
def SV.ren (l:List Nat):SV→SV
 | .c x=>.c (x.ren l)
 | .g cs=>.g (cs.map (·.ren l))
def renE (l:List Nat):Env→Env
 | []=>[]
 | (t,c,sv) :: e=>(t,c,sv.ren l) :: renE l e
def PB.ren (l:List Nat):PB→PB
 | .box ty cs=>.box ty (cs.map (·.ren l))
 | .row e sz n xs=>.row e sz n xs
def renP (l:List Nat):List (Nat × PB)→List (Nat × PB)
 | []=>[]
 | (r,b) :: p=>(rn l r,b.ren l) :: renP l p
def zlV (n:Nat):List (Nat × PB)→Bool
 | []=>true
 | (r,_) :: p=>decide (r < n) && zlV n p
def St.leG (l:List Nat) (h0:Hp) (st st':St):Prop:=leE st.e (renE l st'.e)∧leP st.p (renP l st'.p)∧st'.h.le st.h∧h0.le st'.h∧st'.wf=true∧l.Nodup∧zlV l.length st'.p=true
section
variable {l:List Nat} {ρ:Rho}
theorem SC.ren_conc (x:SC):(x.ren l).conc ρ=x.conc (fun r=>ρ (rn l r)):=by cases x <;> rfl
theorem SV.ren_conc (x:SV):(x.ren l).conc ρ=x.conc (fun r=>ρ (rn l r)):=by
 cases x with
 | c x=>exact SC.ren_conc x
 | g cs=>simp only [SV.ren,zal,List.map_map];congr 2;exact List.map_congr_left fun x _=>SC.ren_conc x
theorem zlW {t:Nat} {c:Bool} {sv:SV}:∀ {e:Env},look t e=some (c,sv)→look t (renE l e)=some (c,sv.ren l)
 | [],h=>by cases h
 | (k,c',sv') :: e,h=>by
  simp only [renE,look] at h ⊢
  split at h
  ·rename_i hk;rw [if_pos hk];simp only [Option.some.injEq,Prod.mk.injEq] at h;rw [h.1,h.2]
  ·rename_i hk;rw [if_neg hk];exact zlW h
theorem zlX:∀ {l:List Nat} {r:Nat},r < l.length→l[r]?=some (rn l r)
 | [],r,h=>by simp at h
 | a :: l,0,_=>rfl
 | a :: l,r+1,h=>by simpa [rn] using zlX (l:=l) (r:=r) (by simpa using h)
theorem zlY (hn:l.Nodup) {r r':Nat} (hr:r < l.length) (hr':r' < l.length) (h:rn l r=rn l r'):r=r':=by
 have h1:=zlX hr
 have h2:=zlX hr'
 rw [h,← h2] at h1
 exact (List.getElem?_inj hr hn).1 h1
theorem zlZ (hn:l.Nodup) {r:Nat} {b:PB}:∀ {p:List (Nat × PB)},zlV l.length p=true→look r p=some b→r < l.length∧look (rn l r) (renP l p)=some (b.ren l)
 | [],_,h=>by cases h
 | (k,b') :: p,hl,h=>by
  simp only [zlV,jJ,decide_eq_true_eq] at hl
  simp only [renP,look] at h ⊢
  split at h
  ·rename_i hk;subst hk;simp only [Option.some.injEq] at h;rw [if_pos rfl,h];exact ⟨hl.1,rfl⟩
  ·rename_i hk
   obtain ⟨h1,h2⟩:=zlZ hn hl.2 h
   rw [if_neg (fun e=>hk (zlY hn hl.1 h1 e))]
   exact ⟨h1,h2⟩
theorem PB.ok_ren {W:World} {r:Nat} {b:PB} (h:(b.ren l).ok 0 ρ (rn l r) W):b.ok 0 (fun r=>ρ (rn l r)) r W:=by
 cases b with
 | box ty cs =>
  obtain ⟨g,h1,h2,h3⟩:=h
  refine ⟨g,h1,h2,?_⟩
  rw [h3,List.map_map]
  congr 3
  exact List.map_congr_left fun x _=>SC.ren_conc x
 | row=>exact h
theorem Conc.weakenG {W0:Base} {h0:Hp} {N:Nat} {st st':St} {a:Act} {W:World} (h:st.leG l h0 st') (hC:Conc W0 h0 N st a W):Conc W0 h0 N st' a W:=by
 obtain ⟨h1,h2,h3,h4,h5,h6,h7⟩:=h
 obtain ⟨ρ,hf,hW,hw⟩:=hC
 have hp:∀ r b,look r st'.p=some b→r < l.length∧look (rn l r) st.p=some (b.ren l):=fun r b hr=>by
  obtain ⟨k1,k2⟩:=zlZ h6 h7 hr
  exact ⟨k1,zdb h2 _ _ k2⟩
 refine ⟨fun r=>ρ (rn l r),⟨hf.1,hf.2.1,fun t c sv hl=>?_⟩,?_,h5⟩
 ·rw [hf.2.2 t c _ (zda h1 t _ (zlW hl)),SV.ren_conc]
 ·refine ⟨hW.below,fun b o hb=>hW.sees b o (h3 b o hb),fun b o hb _=>h4 b o hb,fun b o hb hn=>hW.new b o (h3 b o hb) hn,fun r b g hr hat=>?_,fun r b hr=>?_,fun r b g hr hat=>?_,fun r b r' b' g hr hr' hat hat'=>?_⟩
  ·exact hW.own (rn l r) _ g (hp r b hr).2 hat
  ·exact PB.ok_ren (hW.priv _ _ (hp r b hr).2)
  ·cases hh:st'.h g with
   | none=>rfl
   | some o=>have:=hW.apart (rn l r) _ g (hp r b hr).2 hat;rw [h3 g o hh] at this;cases this
  ·exact zlY h6 (hp r b hr).1 (hp r' b' hr').1 (hW.distinct _ _ _ _ g (hp r b hr).2 (hp r' b' hr').2 hat hat')
end
section
variable {x:Cx} {st:St} {Q:Exit→St→Prop}
theorem zl0 {ι:Type} {c:Code} (S:ι→St) (ok:ι→Prop) (m:ι→Nat) (i0:ι) (h0:ok i0) (l0:List Nat) (hle:st.leG l0 x.h0 (S i0))
  (hr:∀ i,ok i→T x (S i) c (zc1 (fun st'=>∃ j l,ok j∧m j < m i∧st'.leG l x.h0 (S j)) Q)):T x st (.loop c) Q:=by
 unfold T at *
 intro a W hC
 refine zdd (fun i a' W'=>ok i∧Conc x.W0 x.h0 x.N (S i) a' W') m ?_ i0 a W ⟨h0,hC.weakenG hle⟩
 rintro i a W ⟨hi,hC⟩
 refine Code.wp_mono ?_ (hr i hi a W hC)
 rintro e a' W' ⟨st',hq,hC'⟩
 cases e with
 | normal =>
  obtain ⟨j,l,hj,hlt,hle⟩:=hq
  exact ⟨j,hlt,hj,hC'.weakenG hle⟩
 | _=>exact ⟨st',hq,hC'⟩
end
section
variable {l:List Nat} {r o n t a:Nat} {c:Bool} {sv:SV} {e:Env} {p:List (Nat × PB)} {b:PB} {x:SC} {cs:List SC} {h0:Hp} {st st':St}
@[go_sem] theorem zl1:st.leG l h0 st'=(leE st.e (renE l st'.e)∧leP st.p (renP l st'.p)∧st'.h.le st.h∧h0.le st'.h∧st'.wf=true∧l.Nodup∧zlV l.length st'.p=true):=rfl
@[go_sem] theorem zl2:st.leF h0 st'=(leE st.e st'.e∧leP st.p st'.p∧st'.h.le st.h∧h0.le st'.h∧st'.wf=true):=rfl
@[go_sem] theorem zl3:rn (a :: l) 0=a:=rfl
@[go_sem] theorem zl4:rn (a :: l) (n+1)=rn l n:=rfl
@[go_sem] theorem zl5:renE l []=[]:=rfl
@[go_sem] theorem zl6:renE l ((t,c,sv) :: e)=(t,c,sv.ren l) :: renE l e:=rfl
@[go_sem] theorem zl7:renP l []=[]:=rfl
@[go_sem] theorem zl8:renP l ((r,b) :: p)=(rn l r,b.ren l) :: renP l p:=rfl
@[go_sem] theorem zl9:SV.ren l (.c x)=.c (x.ren l):=rfl
@[go_sem] theorem zma:SV.ren l (.g cs)=.g (cs.map (·.ren l)):=rfl
@[go_sem] theorem zmb {y:Value}:SC.ren l (.v y)=.v y:=rfl
@[go_sem] theorem zmc:SC.ren l (.s r)=.s (rn l r):=rfl
@[go_sem] theorem zmd:SC.ren l (.p r o)=.p (rn l r) o:=rfl
@[go_sem] theorem zme {ty:TypeId}:PB.ren l (.box ty cs)=.box ty (cs.map (·.ren l)):=rfl
@[go_sem] theorem zmf {e:TypeId} {sz n:Nat} {xs:List Value}:PB.ren l (.row e sz n xs)=.row e sz n xs:=rfl
@[go_sem] theorem zmg:zlV n []=true:=rfl
@[go_sem] theorem zmh:zlV n ((r,b) :: p)=(decide (r < n) && zlV n p):=rfl
@[go_sem] theorem zmi:([]:List Nat).Nodup=True:=eq_true List.nodup_nil
@[go_sem] theorem zmj:[a].Nodup=True:=eq_true (by simp)
@[go_sem] theorem zmk:(a :: l).Nodup=(a ∉ l∧l.Nodup):=by simp
@[go_sem] theorem zml {h:Hp}:h.le h=True:=eq_true (Hp.le_refl h)
@[go_sem] theorem zmm:([]:List Nat).length=0:=rfl
@[go_sem] theorem zmn:(a :: l).length=l.length+1:=rfl
end
open Go Go.RowKit
theorem Ct.forget {P:Program} {f:FuncId} {args:List Value} {h:Hp} {p:Value→Prop} (H:Ct P f args h fun v _=>p v):Ct P f args h fun v h'=>p v∧h'=h:=by
 unfold Ct at *
 exact ⟨H.1,fun W hs=>(H.2 W hs).mono fun _ _ ⟨v,h',he,r,b,l,s,n⟩=>⟨v,h,he,⟨r,rfl⟩,b,Hp.le_refl _,fun b o hb=>s b o (l b o hb),fun b o h1 h2=>by rw [h1] at h2;cases h2⟩⟩
theorem zmo {α:Type} [Enc α] {h:Hp}:(⟨none,0,[]⟩:Sl α).Ok h:=⟨Nat.le_refl _,fun h=>(h rfl).elim,fun i x hx=>(by cases hx),fun x hx=>(by cases hx),Nat.zero_le _⟩
theorem zmp {α:Type} {p:α→Bool} {l:List α} {k:Nat} (hk:k < l.length) (hq:p l[k]=true):(l.take (k+1)).filter p=(l.take k).filter p ++ [l[k]]:=by
 rw [List.take_succ_eq_append_getElem hk,List.filter_append,List.filter_cons_of_pos hq,List.filter_nil]
theorem zmq {α:Type} {p:α→Bool} {l:List α} {k:Nat} (hk:k < l.length) (hq:p l[k]=false):(l.take (k+1)).filter p=(l.take k).filter p:=by
 rw [List.take_succ_eq_append_getElem hk,List.filter_append,List.filter_cons_of_neg (by rw [hq];exact Bool.false_ne_true),List.filter_nil,List.append_nil]
theorem zFd {α β:Type} {f:α→β} {l:List α} {k:Nat} (hk:k < l.length):(l.take (k+1)).map f=(l.take k).map f ++ [f l[k]]:=by
 rw [List.take_succ_eq_append_getElem hk,List.map_append];rfl
@[go_sem] theorem zmr {a b:ByteArray}:(a.toList == b.toList)=decide (a=b):=by
 rw [ByteArray.toList_eq,ByteArray.toList_eq]
 by_cases h:a=b
 ·subst h;simp
 ·rw [decide_eq_false h]
  exact beq_eq_false_iff_ne.2 fun e=>h (WideShapes.bytes_inj e)
def zms (s:ByteArray) (k:Nat):Int:=((s[k]?).getD 0).toNat
@[go_sem] theorem zmt {P:Program} {g:Bool} {t:TypeId} {s:ByteArray} {i:SV} {L:SV→Prop} (ht:arrT P t=none):zbj P g t (.c (.v (.string s))) i L=((g=true→∃ k,Value.isI k i.val)∧strT P t=true∧(g=true→0≤Value.I i.val∧Value.I i.val < s.size)∧L (.c (.v (.int .u8 (zms s (Value.I i.val).toNat))))):=by
 unfold zbj
 rw [ht]
 simp [Value.isS,SV.val,SC.val,Value.S,zms]
class Sz (β:Type) where
 sz:β→Nat
instance:Sz Int:=⟨fun _=>0⟩
instance:Sz Bool:=⟨fun _=>0⟩
instance:Sz ByteArray:=⟨fun s=>s.size⟩
instance {β:Type} [Sz β]:Sz (List β):=⟨fun l=>l.length+(l.map Sz.sz).sum⟩
theorem zmu {β:Type} [Sz β] {l:List β}:Sz.sz l=l.length+(l.map Sz.sz).sum:=rfl
theorem zmv {β:Type} [Sz β] {l:List β} {n:Nat} (h:Sz.sz l≤n):l.length≤n:=by rw [zmu] at h;omega
theorem zFe {β:Type} [Sz β] {l:List β} {n:Nat} (h:Sz.sz l≤n) {x:β} (hx:x ∈ l):Sz.sz x≤n:=by
 have:=zE6 (List.mem_map_of_mem (f:=Sz.sz) hx)
 rw [zmu] at h;omega
class BlkCon (α:Type) (β:outParam Type) [Blk α] [Con α β] [Sz β]:Prop where
 eq:∀ x:α,Blk.blk x=Sz.sz (Con.con x)
instance:BlkCon Int Int:=⟨fun _=>rfl⟩
instance:BlkCon Bool Bool:=⟨fun _=>rfl⟩
instance:BlkCon ByteArray ByteArray:=⟨fun _=>rfl⟩
instance {α β:Type} [Blk α] [Con α β] [Sz β] [BlkCon α β]:BlkCon (Sl α) (List β):=⟨fun s=>by
 rw [zkt,zmu,zkq,List.length_map,List.map_map]
 congr 2
 exact List.map_congr_left fun x _=>BlkCon.eq x⟩
theorem zmw {α β:Type} [Con α β] (s:Sl α):(Con.con s).length=s.l.length:=by rw [zkq,List.length_map]
theorem zFf {α β:Type} [Con α β] {s:Sl α} {k:Nat} (hk:k < s.l.length):(Con.con s)[k]?=some (Con.con s.l[k]):=by rw [zkq,List.getElem?_map,List.getElem?_eq_getElem hk];rfl
instance:Sz DCall:=⟨fun _=>0⟩
instance:BlkCon DCall DCall:=⟨fun _=>rfl⟩
theorem zFg (s:Sl DCall):Con.con s=s.l:=List.map_id _
instance:Sz DPassage:=⟨fun _=>0⟩
instance:BlkCon DPassage DPassage:=⟨fun _=>rfl⟩
instance:Sz POption:=⟨fun c=>Sz.sz c.pas⟩
instance:BlkCon DOption POption:=⟨fun c=>by
 rw [zkB]
 show _=Sz.sz (Con.con c.pas)
 simp only [BlkCon.eq]⟩
instance:Sz zE8:=⟨fun c=>Sz.sz c.moves⟩
instance:BlkCon DCrew zE8:=⟨fun c=>by
 rw [zkF]
 show _=Sz.sz (Con.con c.moves)
 simp only [BlkCon.eq]⟩
instance:Sz DPart:=⟨fun _=>0⟩
instance:BlkCon DPart DPart:=⟨fun _=>rfl⟩
instance:Sz zE9:=⟨fun c=>Sz.sz c.parts⟩
instance:BlkCon DTide zE9:=⟨fun c=>by
 rw [zkK]
 show _=Sz.sz (Con.con c.parts)
 simp only [BlkCon.eq]⟩
instance:Sz DSurge:=⟨fun _=>0⟩
instance:BlkCon DSurge DSurge:=⟨fun _=>rfl⟩
instance:Sz zFa:=⟨fun c=>Sz.sz c.tide+Sz.sz c.surges⟩
instance:BlkCon DForecast zFa:=⟨fun c=>by
 rw [zkP]
 show _=Sz.sz (Con.con c.tide)+Sz.sz (Con.con c.surges)
 simp only [BlkCon.eq]⟩
instance:Sz DPoint:=⟨fun c=>Sz.sz c.name⟩
instance:BlkCon DPoint DPoint:=⟨fun c=>by
 rw [zkR]
 show _=Sz.sz (Con.con c.name)
 simp only [BlkCon.eq]⟩
instance:Sz DSegment:=⟨fun _=>0⟩
instance:BlkCon DSegment DSegment:=⟨fun _=>rfl⟩
instance:Sz zFb:=⟨fun c=>Sz.sz c.points+Sz.sz c.segments⟩
instance:BlkCon DChart zFb:=⟨fun c=>by
 rw [zkX]
 show _=Sz.sz (Con.con c.points)+Sz.sz (Con.con c.segments)
 simp only [BlkCon.eq]⟩
instance:Sz DShip:=⟨fun c=>Sz.sz c.name⟩
instance:BlkCon DShip DShip:=⟨fun c=>by
 rw [zkZ]
 show _=Sz.sz (Con.con c.name)
 simp only [BlkCon.eq]⟩
instance:Sz DRegime:=⟨fun _=>0⟩
instance:BlkCon DRegime DRegime:=⟨fun _=>rfl⟩
instance:Sz zFc:=⟨fun c=>Sz.sz c.forecast+Sz.sz c.chart+Sz.sz c.fleet+Sz.sz c.crew⟩
instance:BlkCon DHarbour zFc:=⟨fun c=>by
 rw [zk4]
 show _=Sz.sz (Con.con c.forecast)+Sz.sz (Con.con c.chart)+Sz.sz (Con.con c.fleet)+Sz.sz (Con.con c.crew)
 simp only [BlkCon.eq]⟩
instance:Sz zk6:=⟨fun c=>Sz.sz c.plan⟩
instance:BlkCon DBranch zk6:=⟨fun c=>by
 rw [zk7]
 show _=Sz.sz (Con.con c.plan)
 simp only [BlkCon.eq]⟩
instance:Sz zk9:=⟨fun c=>Sz.sz c.branches⟩
instance:BlkCon DStrategy zk9:=⟨fun c=>by
 rw [zla]
 show _=Sz.sz (Con.con c.branches)
 simp only [BlkCon.eq]⟩
instance:Sz DWindow:=⟨fun _=>0⟩
instance:BlkCon DWindow DWindow:=⟨fun _=>rfl⟩
instance:Sz DDuty:=⟨fun _=>0⟩
instance:BlkCon DDuty DDuty:=⟨fun _=>rfl⟩
theorem zFh (s:Sl DDuty):Con.con s=s.l:=List.map_id _
open Go Go.RowKit
theorem zmx {h h':Hp} {b:Nat} (hle:h.le h') (hn:h' b=none):h b=none:=by
 cases hh:h b with
 | none=>rfl
 | some o=>rw [← hn,hle b o hh]
class MkSz (α:Type) {β:outParam Type} [Mk α] [Con α β] [Sz β]:Prop where
 le:∀ x:α,Mk.cnt x≤6+6 * Sz.sz (Con.con x)
instance:MkSz Int:=⟨fun x=>by show 1≤_;omega⟩
theorem zmy {α β:Type} [Mk α] [Con α β] [Sz β] [MkSz α]:∀ l:List α,cntL l≤6 * (l.length+((l.map Con.con).map Sz.sz).sum)
 | []=>Nat.zero_le _
 | x :: l=>by
  have h1:=zmy l
  have h2:=MkSz.le x
  rw [zlF]
  simp only [List.length_cons,List.map_cons,List.sum_cons]
  omega
instance {α β:Type} [Mk α] [Con α β] [Sz β] [MkSz α]:MkSz (Sl α):=⟨fun s=>by
 have:=zmy s.l
 rw [zkq,zmu,List.length_map]
 show cntL s.l≤_
 omega⟩
instance:MkSz DCall:=⟨fun x=>by show 5≤_;omega⟩
instance:MkSz DPassage:=⟨fun x=>by show 5≤_;omega⟩
instance:MkSz DPart:=⟨fun x=>by show 3≤_;omega⟩
instance:MkSz DSurge:=⟨fun x=>by show 3≤_;omega⟩
instance:MkSz DPoint:=⟨fun x=>by show 2≤_;omega⟩
instance:MkSz DSegment:=⟨fun x=>by show 5≤_;omega⟩
instance:MkSz DShip:=⟨fun x=>by show 6≤_;omega⟩
instance:MkSz DWindow:=⟨fun x=>by show 2≤_;omega⟩
instance:MkSz DDuty:=⟨fun x=>by show 4≤_;omega⟩
theorem zmz {α β:Type} [Mk α] [Con α β] [Sz β] [MkSz α] (s:Sl α):Mk.cnt s≤6 * Sz.sz (Con.con s):=by
 have:=zmy s.l
 rw [zkq,zmu,List.length_map]
 exact this
instance:MkSz DOption:=⟨fun x=>by
 have:=zmz x.pas
 show 3+Mk.cnt x.pas≤6+6 * Sz.sz (Con.con x.pas)
 omega⟩
instance:MkSz DBranch:=⟨fun x=>by
 have:=zmz x.plan
 show 2+Mk.cnt x.plan≤6+6 * Sz.sz (Con.con x.plan)
 omega⟩
open Go Go.RowKit
open Go Go.RowKit
def Sl.to {α:Type} (s:Sl α) (k:Nat):Sl α:=⟨s.a,s.cap,s.l.take k⟩
theorem Sl.to_len {α:Type} {s:Sl α} {k:Nat} (hk:k≤s.l.length):(s.to k).l.length=k:=by show (s.l.take k).length=k;rw [List.length_take];omega
theorem Sl.to_ok {α:Type} [Enc α] {h:Hp} {s:Sl α} (H:s.Ok h) (k:Nat):(s.to k).Ok h:=by
 refine ⟨Nat.le_trans (by show (s.l.take k).length≤_;rw [List.length_take];omega) H.1,fun hne=>H.2.1 fun e=>hne (by show s.l.take k=[];rw [e];exact List.take_nil),fun i x hx=>H.2.2.1 i x ?_,fun x hx=>H.2.2.2.1 x (List.mem_of_mem_take hx),H.2.2.2.2⟩
 have hx:(s.l.take k)[i]?=some x:=hx
 rw [List.getElem?_take] at hx
 split at hx
 ·exact hx
 ·cases hx
theorem Sl.to_get {α:Type} {s:Sl α} {k j:Nat} (hj:j < (s.to k).l.length) (hj':j < s.l.length):(s.to k).l[j]=s.l[j]:=by
 exact List.getElem_take
theorem zmA:(fun x:Addr=>x.add 0)=fun x=>x:=by funext x;simp [Addr.add]
theorem zmB {α:Type} {a:Option α}:Option.map (fun x=>x) a=a:=by cases a <;> rfl
theorem zmC {α:Type} {s:Sl α} {k:Nat} (hk:k≤s.l.length):Value.slice s.a k s.cap=(s.to k).val:=by
 show _=Value.slice s.a (s.l.take k).length s.cap
 rw [List.length_take,Nat.min_eq_left hk]
open Go Go.RowKit
theorem zmD {cs:List SC} (h:cs.all zb7=true) (ρ:Rho):cs.map (·.conc ρ)=cs.map (·.val):=by
 apply List.map_congr_left
 intro c hc
 have:=List.all_eq_true.1 h c hc
 cases c <;> first|rfl|cases this
theorem Conc.pubB {W0:Base} {h0:Hp} {N:Nat} {st:St} {a:Act} {W:World} {r:Nat} {ty:TypeId} {cs:List SC} (hr:look r st.p=some (.box ty cs)) (hpl:cs.all zb7=true) (hC:Conc W0 h0 N st a W) :
  ∃ g,st.h g=none∧W0.own g∧Conc W0 h0 N (st.sub r (.pointer (some ⟨g,0,none⟩)) (st.h.ins g (.cells (cs.map (·.val)).toArray ty (0,0)))) a W:=by
 obtain ⟨ρ,hf,hW,hw⟩:=hC
 obtain ⟨g,hv,_,hg⟩:=hW.priv r _ hr
 rw [zmD hpl] at hg
 have hsub:∀ {v:Value} {k b'},look k (subP r v (zb2 r st.p))=some b'→∃ b,look k st.p=some b∧k ≠ r∧b'=b.sub r v:=by
  intro v k b' hk
  obtain ⟨b,h1,h2⟩:=zjL hk
  exact ⟨b,(zb3 h1).1,(zb3 h1).2,h2⟩
 have hatr:PB.at ρ r g:=.inl hv
 have hgn:=hW.apart r _ g hr hatr
 refine ⟨g,hgn,hW.own r _ _ hr hatr,ρ,⟨hf.1,hf.2.1,fun t c sv hl=>?_⟩,?_,?_⟩
 ·obtain ⟨sv0,h1,rfl⟩:=zjK hl
  rw [SV.sub_conc hv]
  exact hf.2.2 t c sv0 h1
 ·refine ⟨hW.below,fun b o hb'=>?_,fun b o h1 h2=>Hp.ins_le hgn b o (hW.ext b o h1 h2),fun b o hb' h0b=>?_,fun k b' g' hk hat=>?_,fun k b' hk=>?_,fun k b' g' hk hat=>?_,fun k b k' b' g hk hk' h1 h2=>?_⟩
  ·simp only [St.sub,Hp.ins] at hb'
   split at hb'
   ·rename_i e;subst e;simp only [Option.some.injEq] at hb';rw [← hb'];exact hg
   ·exact hW.sees b o hb'
  ·simp only [St.sub,Hp.ins] at hb'
   split at hb'
   ·rename_i e;subst e;exact hW.own r _ _ hr hatr
   ·exact hW.new b o hb' h0b
  ·obtain ⟨b,h1,_,rfl⟩:=hsub hk
   exact hW.own k b g' h1 hat
  ·obtain ⟨b,h1,_,rfl⟩:=hsub hk
   exact PB.ok_sub hv (hW.priv k b h1)
  ·obtain ⟨b,h1,hne,rfl⟩:=hsub hk
   simp only [St.sub,Hp.ins]
   split
   ·rename_i e;subst e
    exact (hne (hW.distinct k b r _ g' h1 hr hat hatr)).elim
   ·exact hW.apart k b g' h1 hat
  ·obtain ⟨b,h3,_,rfl⟩:=hsub hk
   obtain ⟨b2,h4,_,rfl⟩:=hsub hk'
   exact hW.distinct k b k' b2 g h3 h4 h1 h2
 ·simp only [St.wf,St.sub,jJ]
  exact ⟨zjM (wf_e hw),zjN (zb4 (wf_p hw))⟩
theorem zmE {x:Cx} {st:St} {c:Code} {Q:Exit→St→Prop} (r:Nat) {ty:TypeId} {cs:List SC} (hr:look r st.p=some (.box ty cs)) (hpl:cs.all zb7=true)
  (h:∀ g,st.h g=none→x.W0.own g→T x (st.sub r (.pointer (some ⟨g,0,none⟩)) (st.h.ins g (.cells (cs.map (·.val)).toArray ty (0,0)))) c Q):T x st c Q:=by
 unfold T at *
 intro a W hC
 obtain ⟨g,h1,h2,hC'⟩:=hC.pubB hr hpl
 exact h g h1 h2 a W hC'
@[go_sem] theorem zmF {b o:Nat} {s}:blk (.pointer (some ⟨b,o,s⟩))=b:=rfl
theorem zmG {h:Hp} {b:Nat} {xs:List Value} {ty:TypeId} {o n:Nat} {ys:List Value} (hb:h b=some (.cells xs.toArray ty (0,0))) (hl:(xs.drop o).take n=ys) (hn:o+n≤xs.length):h.lds (some ⟨b,o,none⟩) n=some ys:=by
 subst hl
 refine zad (by simp;omega) fun j v hj=>?_
 have hj':xs[o+j]?=some v:=by
  rw [List.getElem?_take] at hj
  split at hj
  ·simpa [List.getElem?_drop] using hj
  ·cases hj
 rw [za4]
 simp only [Hp.cell,hb,Nat.zero_add,Option.isSome_none,Bool.false_eq_true,if_false]
 simpa using hj'
def Hp.del (h:Hp) (b:Nat):Hp:=fun i=>if i=b then none else h i
theorem Hp.del_ne {h:Hp} {b i:Nat} (hi:i ≠ b):h.del b i=h i:=by simp [Hp.del,hi]
theorem Hp.del_same {h:Hp} {b:Nat}:h.del b b=none:=by simp [Hp.del]
def zmH (x:Cx) (st:St) (t:Nat) (K:St→Prop):Prop :=
 ∃ v,look t st.e=some (true,.c (.v v))∧((v=.slice none 0 0∧∃ e sz,K ⟨(t,true,.c (.s st.nx)) :: st.e,(st.nx,.row e sz 0 []) :: st.p,st.h,st.nx+1⟩) ∨
  ∃ b n cap cur e sz,v=.slice (some ⟨b,0,none⟩) n cap∧st.h b=some (.cells cur e (0,0))∧(x.h0 b=none∨x.W0.own b)∧cur.size=cap * sz∧n≤cap∧cap≤maxLen ∧
   K ⟨(t,true,.c (.s st.nx)) :: st.e,(st.nx,.row e sz n (cur.toList.take (n * sz))) :: st.p,st.h.del b,st.nx+1⟩)
theorem Conc.adopt {x:Cx} {st:St} {a:Act} {W:World} {t:Nat} {v:Value} {e:TypeId} {sz n:Nat} {xs:List Value} {h':Hp} (ht:look t st.e=some (true,.c (.v v))) (hC:Conc x.W0 x.h0 x.N st a W)
  (hrow:W.ownsRow 0 e sz v n xs) (hle:∀ k o,h' k=some o→st.h k=some o) (hdel:∀ k,st.h k ≠ none→h' k=none→x.W0.own k)
  (hat:∀ g,(v=.pointer (some ⟨g,0,none⟩)∨∃ n c,v=.slice (some ⟨g,0,none⟩) n c)→x.W0.own g∧h' g=none∧st.h g ≠ none) :
  Conc x.W0 x.h0 x.N ⟨(t,true,.c (.s st.nx)) :: st.e,(st.nx,.row e sz n xs) :: st.p,h',st.nx+1⟩ a W:=by
 obtain ⟨ρ,hf,hW,hw⟩:=hC
 refine ⟨upd ρ st.nx v,?_,?_,?_⟩
 ·have hf':=hf.congr (wf_e hw) (zbU ρ st.nx v)
  refine ⟨hf'.1,hf'.2.1,fun t' c sv hl=>?_⟩
  simp only [look] at hl
  split at hl
  ·rename_i e;subst e
   simp only [Option.some.injEq,Prod.mk.injEq] at hl
   obtain ⟨rfl,rfl⟩:=hl
   rw [if_pos rfl,zak,zaj,zbT]
   have:=hf.2.2 _ _ _ ht
   simpa using this
  ·exact hf'.2.2 t' c sv hl
 ·have base:WOk x.W0 x.h0 ρ st.p h' W:=by
   refine ⟨hW.below,fun k o hk=>hW.sees k o (hle k o hk),fun k o h1 h2=>?_,fun k o h1 h2=>hW.new k o (hle k o h1) h2,hW.own,hW.priv,fun r b' g hr hat'=>?_,hW.distinct⟩
   ·have h3:=hW.ext k o h1 h2
    cases hh:h' k with
    | none=>exact (h2 (hdel k (by rw [h3];simp) hh)).elim
    | some o'=>rw [hle k o' hh] at h3;exact h3
   ·have:=hW.apart r b' g hr hat'
    cases hh:h' g with
    | none=>rfl
    | some o=>rw [hle g o hh] at this;cases this
  refine base.add (wf_p hw) (fun _ _ x=>x) base.below base.sees (fun g hg=>(hat g hg).1) (fun r b' hr=>base.priv r b' hr) ?_ (fun g hg=>(hat g hg).2.1) (fun r b' g hr hat' hv=>?_)
  ·show W.ownsRow 0 e sz (upd ρ st.nx _ st.nx) n _
   rw [zbT]
   exact hrow
  ·exact (hat g hv).2.2 (hW.apart r b' g hr hat')
 ·have hle':st.nx≤st.nx+1:=Nat.le_succ _
  simp only [St.wf,jJ]
  exact ⟨by simp [zam,SV.lt,SC.lt,zap hle' (wf_e hw)],by simp [pbLt,PB.lt,zaq hle' (wf_p hw)]⟩
theorem zmI {x:Cx} {st:St} {t:Nat} {K:St→Prop} {a:Act} {W:World} (h:zmH x st t K) (hC:Conc x.W0 x.h0 x.N st a W):∃ st',K st'∧Conc x.W0 x.h0 x.N st' a W:=by
 obtain ⟨v,ht,⟨rfl,e,sz,hk⟩|⟨b,n,cap,cur,e,sz,rfl,hb,hown,hsz,hn,hc,hk⟩⟩:=h
 ·refine ⟨_,hk,hC.adopt ht ⟨by simp,.inl ⟨rfl,rfl⟩⟩ (fun _ _ h=>h) (fun k h1 h2=>(h1 h2).elim) (fun g hg=>?_)⟩
  rcases hg with hg|⟨_,_,hg⟩ <;> cases hg
 ·have hC2:=hC
  obtain ⟨ρ,hf,hW,hw⟩:=hC2
  have ho:x.W0.own b:=Conc.own_new hW (by rw [hb];simp) hown
  refine ⟨_,hk,hC.adopt ht ⟨by rw [List.length_take,Array.length_toList,hsz,Nat.min_eq_left (Nat.mul_le_mul_right _ hn)],.inr ⟨b,cap,cur,rfl,Nat.zero_le _,hW.sees b _ hb,hn,hc,hsz,rfl⟩⟩ (fun k o hk=>?_) (fun k h1 h2=>?_) (fun g hg=>?_)⟩
  ·simp only [Hp.del] at hk;split at hk
   ·cases hk
   ·exact hk
  ·simp only [Hp.del] at h2;split at h2
   ·rename_i e;subst e;exact ho
   ·exact (h1 h2).elim
  ·rcases hg with hg|⟨_,_,hg⟩
   ·cases hg
   ·injection hg with hg;injection hg with hg;injection hg with hg;subst hg
    exact ⟨ho,Hp.del_same,by rw [hb];simp⟩
def zmJ (o:Oper):Option Nat:=match o.op with
 | .call ⟨.builtin .append,ars,_⟩=>(match ars.toList with|.tmp t :: _=>some t|_=>none)
 | _=>none
def bstr (ns:List Int):ByteArray:=ns.foldl (fun r n=>r.push (UInt8.ofNat n.toNat)) ByteArray.empty
def zmK (x:Cx) (st:St) (s d:TypeId) (vy:SV) (K:Value→Prop):Prop :=
 ∃ r e n ns e',vy=.c (.s r)∧look r st.p=some (.row e 1 n (ns.map (Value.int .u8)))∧x.P.underlying s=some (.slice e')∧x.P.underlying e'=some (.int .u8)∧x.P.underlying d=some .string∧K (.string (bstr ns))
def zmL (x:Cx) (st:St) (o:Oper) (K:St→Prop):Prop :=
 o.guard=none∧match o.op with
 | .convert s d y=>getO st true y fun vy=>zmK x st s d vy fun v=>K (St.mk (zb5 st.e o.dst true (.c (.v v))) st.p st.h st.nx)
 | _=>False
theorem zmM {x:Cx} {st:St} {o:Oper} {K:St→Prop} {QQ:Exit→Act→World→Prop} {a:Act} {W:World} (hd:∀ d',o.dst=some d'→d' < x.N) (h:zmL x st o K) (hC:Conc x.W0 x.h0 x.N st a W) :
  (∀ tm,Region.wanted o tm=true)∧o.wp x.P a W (fun a' W'=>∃ st',K st'∧Conc x.W0 x.h0 x.N st' a' W') QQ:=by
 obtain ⟨ρ,hf,hW,hw⟩:=hC
 obtain ⟨hg,h⟩:=h
 refine ⟨fun tm=>by simp [Region.wanted,hg],?_⟩
 split at h
 ·rename_i s d y ho
  obtain ⟨vy,h,_,hvy⟩:=zaB (N:=x.N) hw h
  obtain ⟨r,e,n,ns,e',rfl,hr,hs,he,hdd,hk⟩:=h
  replace hvy:=hvy rfl ρ a hf
  have hrow:W.ownsRow 0 e 1 (ρ r) n (ns.map (Value.int .u8)):=hW.priv r _ hr
  have hrun:(execOp a.eval o).run x.P W=.ok (.value (.string (bstr ns))) W:=by
   simp only [execOp,ho,hvy,zak,zaj]
   rcases hrow.2 with ⟨h1,h2⟩|⟨g,cap,cur,h1,_,hb,hn,_,hsz,htk⟩
   ·have h0:ns=[]:=by
     have:=hrow.1
     rw [h2,List.length_map] at this
     exact List.length_eq_zero_iff.1 (by omega)
    subst h0
    rw [h1]
    simp only [Sem.run_bind,run_convert_bytes_string W s d e' none _ _ hs he hdd]
    simp [Conv.bytesToString,Sem.run_pure,bstr]
   ·rw [h1]
    have hl:(loadCells ⟨g,0,none⟩ n).run x.P W=.ok (ns.map (Value.int .u8)).toArray W:=by
     have hlen:=hrow.1
     rw [Nat.mul_one] at hlen htk
     have:=run_loadCells_list (P:=x.P) W ⟨g,0,none⟩ (ns.map (Value.int .u8)) fun j v hj=>by
      rw [← htk,List.getElem?_take] at hj
      split at hj
      ·rw [za4]
       simp only [World.cell?,hb,Nat.zero_add,Option.isSome_none,Bool.false_eq_true,if_false]
       simpa using hj
      ·cases hj
     rw [hlen] at this
     exact this
    simp only [Sem.run_bind,run_convert_bytes_string W s d e' _ _ _ hs he hdd,run_bytesToString W _ n cap ns hl,Result.andThen_ok,Sem.run_pure]
    rfl
  unfold Oper.wp
  rw [hrun]
  exact ⟨_,hk,Conc.put_ (c:=true) hf hW (wf_p hw) (wf_e hw) hd rfl (by simp)⟩
 ·exact h.elim
def vopM (x:Cx) (ops:List Oper) (st:St) (o:Oper) (K:St→Prop):Nat→Prop
 | 0=>vop x.P ops st o K
 | 1=>vopX x st o K
 | 2=>vop x.P ops st o fun st'=>vpub st' o.dst K
 | 4=>zmL x st o K
 | 5=>onD (zmJ o) fun t=>zmH x st t fun st1=>vop x.P ops st1 o K
 | _=>onD (zmJ o) fun t=>zmH x st t fun st1=>vop x.P ops st1 o fun st'=>vpub st' o.dst K
def zmN (x:Cx) (ops:List Oper) (K:St→Prop):List Nat→List Oper→St→Prop
 | [],l,st=>vops x.P ops l st K
 | m :: ms,o :: l,st=>vopM x ops st o (fun st'=>zmN x ops K ms l st') m
 | _ :: _,[],_=>False
section
variable {x:Cx} {st:St} {Q:Exit→St→Prop}
theorem zmO {ops:List Oper} {o:Oper} {m:Nat} {K:St→Prop} {QQ:Exit→Act→World→Prop} {a:Act} {W:World} (hd:∀ d',o.dst=some d'→d' < x.N) (h:vopM x ops st o K m) (hC:Conc x.W0 x.h0 x.N st a W) :
  (Region.wanted o (yielded ops.toArray a.tmps)=true∧o.wp x.P a W (fun a' W'=>∃ st',K st'∧Conc x.W0 x.h0 x.N st' a' W') QQ)∨(Region.wanted o (yielded ops.toArray a.tmps)=false∧∃ st',K st'∧Conc x.W0 x.h0 x.N st' (a.put o.dst undef) W):=by
 have gen:∀ {K':St→Prop} {st:St},Conc x.W0 x.h0 x.N st a W→vop x.P ops st o K'→(∀ st' a' W',K' st'→Conc x.W0 x.h0 x.N st' a' W'→∃ st'',K st''∧Conc x.W0 x.h0 x.N st'' a' W') →
   (Region.wanted o (yielded ops.toArray a.tmps)=true∧o.wp x.P a W (fun a' W'=>∃ st',K st'∧Conc x.W0 x.h0 x.N st' a' W') QQ)∨(Region.wanted o (yielded ops.toArray a.tmps)=false∧∃ st',K st'∧Conc x.W0 x.h0 x.N st' (a.put o.dst undef) W):=by
  intro K' st hC h hn
  rcases zcY (Q:=QQ) hd h hC with ⟨hw,hwp⟩|⟨hw,st',hk,hC'⟩
  ·refine .inl ⟨hw,Oper.wp_mono ?_ hwp⟩
   rintro a' W' ⟨st',hk,hC'⟩
   exact hn st' a' W' hk hC'
  ·exact .inr ⟨hw,hn st' _ _ hk hC'⟩
 match m,h with
 | 0,h=>exact gen hC h fun st' a' W' hk hC'=>⟨st',hk,hC'⟩
 | 1,h =>
  obtain ⟨hw,hwp⟩:=zln (QQ:=QQ) hd h hC
  exact .inl ⟨hw _,hwp⟩
 | 2,h=>exact gen hC h fun st' a' W' hk hC'=>zlo hk hC'
 | 4,h =>
  obtain ⟨hw,hwp⟩:=zmM (QQ:=QQ) hd h hC
  exact .inl ⟨hw _,hwp⟩
 | 5,h =>
  have h:onD (zmJ o) fun t=>zmH x st t fun st1=>vop x.P ops st1 o K:=h
  unfold onD at h
  split at h
  ·obtain ⟨st1,h,hC1⟩:=zmI h hC
   exact gen hC1 h fun st' a' W' hk hC'=>⟨st',hk,hC'⟩
  ·exact h.elim
 | 3,h|m+6,h =>
  have h:onD (zmJ o) fun t=>zmH x st t fun st1=>vop x.P ops st1 o fun st'=>vpub st' o.dst K:=h
  unfold onD at h
  split at h
  ·obtain ⟨st1,h,hC1⟩:=zmI h hC
   exact gen hC1 h fun st' a' W' hk hC'=>zlo hk hC'
  ·exact h.elim
theorem zmP {ops:List Oper} {K:St→Prop} {QQ:Exit→Act→World→Prop} (hQ:∀ st' a' W',K st'→Conc x.W0 x.h0 x.N st' a' W'→QQ .normal a' W'):∀ {ms:List Nat} {l:List Oper} {st:St} {a:Act} {W:World},zcZ x.N l=true→zmN x ops K ms l st→Conc x.W0 x.h0 x.N st a W →
  wpList x.P ops.toArray QQ l a W
 | [],l,st,a,W,hd,h,hC=>by
  have h:vops x.P ops l st K:=by cases l <;> exact h
  exact zc0 hd hQ h hC
 | m :: ms,[],st,a,W,hd,h,hC=>h.elim
 | m :: ms,o :: l,st,a,W,hd,h,hC=>by
  simp only [zcZ,jJ] at hd
  have hd1:∀ d',o.dst=some d'→d' < x.N:=by
   intro d' e
   have:=hd.1
   rw [e] at this
   simpa using this
  have h:vopM x ops st o (fun st'=>zmN x ops K ms l st') m:=h
  simp only [wpList]
  rcases zmO (QQ:=QQ) hd1 h hC with ⟨hw,hwp⟩|⟨hw,st',hk,hC'⟩
  ·rw [if_pos hw]
   left
   refine Oper.wp_mono ?_ hwp
   rintro a' W' ⟨st',hk,hC'⟩
   exact zmP hQ hd.2 hk hC'
  ·rw [if_neg (by simp [hw])]
   exact zmP hQ hd.2 hk hC'
theorem zmQ {id:Nat} {ops:List Oper} (n:List Nat) (hd:zcZ x.N ops=true) (h:zmN x ops (fun st'=>Q .normal st') n ops st):T x st (.region id ops.toArray false) Q:=by
 unfold T
 intro a W hC
 exact wp_region_lit (zmP (fun st' a' W' hk hC'=>⟨st',hk,hC'⟩) hd h hC)
theorem zmR {id:Nat} {ops:List Oper} {d:Code} (n:List Nat) (hd:zcZ x.N ops=true) (h:zmN x ops (fun st'=>T x st' d Q) n ops st):T x st (.seq (.region id ops.toArray false) d) Q :=
 zc3 (zmQ n hd h)
end
attribute [irreducible] zmK zmH
theorem zmS {x:Cx} {st:St} {s d:TypeId} {r:Nat} {e:TypeId} {n:Nat} {ns:List Int} {xs:List Value} {e':TypeId} {K:Value→Prop} (hr:look r st.p=some (.row e 1 n xs)) (hx:xs=ns.map (Value.int .u8))
  (h1:x.P.underlying s=some (.slice e')) (h2:x.P.underlying e'=some (.int .u8)) (h3:x.P.underlying d=some .string) (hk:K (.string (bstr ns))):zmK x st s d (.c (.s r)) K:=by
 unfold zmK;subst hx;exact ⟨r,e,n,ns,e',rfl,hr,h1,h2,h3,hk⟩
theorem zmT {x:Cx} {st:St} {t:Nat} {K:St→Prop} (e:TypeId) (sz:Nat) (ht:look t st.e=some (true,.c (.v (.slice none 0 0)))) (hk:K ⟨(t,true,.c (.s st.nx)) :: st.e,(st.nx,.row e sz 0 []) :: st.p,st.h,st.nx+1⟩):zmH x st t K:=by
 unfold zmH;exact ⟨_,ht,.inl ⟨rfl,e,sz,hk⟩⟩
theorem zmU {x:Cx} {st:St} {t:Nat} {K:St→Prop} {b n cap:Nat} {cur:Array Value} {e:TypeId} (sz:Nat) (ht:look t st.e=some (true,.c (.v (.slice (some ⟨b,0,none⟩) n cap)))) (hb:st.h b=some (.cells cur e (0,0)))
  (hown:x.h0 b=none∨x.W0.own b) (hsz:cur.size=cap * sz) (hn:n≤cap) (hc:cap≤maxLen)
  (hk:K ⟨(t,true,.c (.s st.nx)) :: st.e,(st.nx,.row e sz n (cur.toList.take (n * sz))) :: st.p,st.h.del b,st.nx+1⟩):zmH x st t K:=by
 unfold zmH;exact ⟨_,ht,.inr ⟨b,n,cap,cur,e,sz,rfl,hb,hown,hsz,hn,hc,hk⟩⟩
section
variable {x:Cx} {st:St} {o:Oper} {l ops:List Oper} {m:Nat} {ms:List Nat} {K:St→Prop}
@[go_sem] theorem zmV:zmN x ops K [] l st=vops x.P ops l st K:=by cases l <;> rfl
@[go_sem] theorem zmW:zmN x ops K (m :: ms) (o :: l) st=vopM x ops st o (fun st'=>zmN x ops K ms l st') m:=rfl
@[go_sem] theorem zmX:vopM x ops st o K 0=vop x.P ops st o K:=rfl
@[go_sem] theorem zmY:vopM x ops st o K 1=vopX x st o K:=rfl
@[go_sem] theorem zmZ:vopM x ops st o K 2=vop x.P ops st o fun st'=>vpub st' o.dst K:=rfl
@[go_sem] theorem zm0:vopM x ops st o K 3=onD (zmJ o) fun t=>zmH x st t fun st1=>vop x.P ops st1 o fun st'=>vpub st' o.dst K:=rfl
@[go_sem] theorem zm1:vopM x ops st o K 5=onD (zmJ o) fun t=>zmH x st t fun st1=>vop x.P ops st1 o K:=rfl
@[go_sem] theorem zm2:vopM x ops st o K 4=zmL x st o K:=rfl
@[go_sem] theorem zm3 {d:Option Nat} {t:Tmp} {y:Operand} {ats:Array TypeId} {ty:TypeId} {p:String} {af:Array Edge} {gd:Option (Nat × Bool)}:zmJ ⟨d,.call ⟨.builtin .append,#[.tmp t,y],ats⟩,ty,p,af,gd⟩=some t:=rfl
@[go_sem] theorem zm4 {d:Option Nat} {s dd:TypeId} {y:Operand} {ty:TypeId} {p:String} {af:Array Edge}:zmL x st ⟨d,.convert s dd y,ty,p,af,none⟩ K=getO st true y fun vy=>zmK x st s dd vy fun v=>K (St.mk (zb5 st.e d true (.c (.v v))) st.p st.h st.nx):=by
 unfold zmL;simp
@[congr] theorem zm5 {st':St} (h:st=st'):zmN x ops K ms l st=zmN x ops K ms l st':=by rw [h]
end
open Go Go.RowKit
def zm6 (ops:Array Oper):Nat→Nat→Nat→Bool
 | 0,_,_=>false
 | f+1,k,i=>match ops[k]? with
  | some o=>o.after.toList.any fun e=>Region.binds .any e && (e.on == i || zm6 ops f e.on i)
  | none=>false
def Closed (ops:Array Oper) (l:Array Bool):Prop:=∀ k o,ops[k]?=some o→l.getD k false=true→∀ e ∈ o.after,Region.binds .any e=true→l.getD e.on false=true
theorem zm7 {ops:Array Oper} {l:Array Bool} (hc:Closed ops l) {i:Nat} (hi:l.getD i false=false):∀ {f k:Nat},l.getD k false=true→zm6 ops f k i=false
 | 0,_,_=>rfl
 | f+1,k,hk=>by
  unfold zm6
  split
  ·rename_i o ho
   rw [List.any_eq_false]
   intro e he hb
   simp only [jJ,jQ,beq_iff_eq] at hb
   have h1:=hc k o ho hk e (by simpa using he) hb.1
   rcases hb.2 with h2|h2
   ·rw [h2,hi] at h1;cases h1
   ·rw [zm7 hc hi h1] at h2;cases h2
  ·rfl
theorem zm8 {l:Array Bool} {i:Nat} (h:l.getD i true=false):l.getD i false=false:=by
 rcases Nat.lt_or_ge i l.size with h'|h'
 ·simpa [Array.getD,h'] using h
 ·simp [Array.getD,Nat.not_lt.2 h'] at h
theorem zm9 {l:Array Bool} {i k:Nat} (h:l.getD k false=true):(l.setIfInBounds i true).getD k false=true:=by
 simp only [Array.getD_eq_getD_getElem?] at h ⊢
 by_cases e:i=k
 ·subst e
  rcases Nat.lt_or_ge i l.size with h'|h'
  ·simp [h']
  ·simp [Array.getElem?_eq_none h'] at h
 ·rw [Array.getElem?_setIfInBounds_ne e];exact h
theorem zna {l:Array Bool} {i k:Nat} (e:i ≠ k):(l.setIfInBounds i true).getD k false=l.getD k false:=by
 simp only [Array.getD_eq_getD_getElem?]
 rw [Array.getElem?_setIfInBounds_ne e]
theorem znb {ops:Array Oper} {l:Array Bool} (hc:Closed ops l) {i j:Nat} (hi:l.getD i false=false) (hj:j ∈ Region.ready .any ops l):∀ {f:Nat},zm6 ops f j i=false
 | 0=>rfl
 | f+1=>by
  obtain ⟨_,o,ho,hall⟩:=mem_ready.1 hj
  unfold zm6
  rw [ho]
  rw [List.any_eq_false]
  intro e he hb
  simp only [jJ,jQ,beq_iff_eq] at hb
  have h1:=hall e (by simpa using he) hb.1
  rcases hb.2 with h2|h2
  ·rw [h2,hi] at h1;cases h1
  ·rw [zm7 hc hi h1] at h2;cases h2
theorem Closed.set {ops:Array Oper} {l:Array Bool} (hc:Closed ops l) {j:Nat} (hj:j ∈ Region.ready .any ops l):Closed ops (l.setIfInBounds j true):=by
 intro k o ho hk e he hb
 by_cases ej:j=k
 ·subst ej
  obtain ⟨_,o',ho',hall⟩:=mem_ready.1 hj
  rw [ho] at ho';cases ho'
  exact zm9 (hall e he hb)
 ·rw [zna ej] at hk
  exact zm9 (hc k o ho hk e he hb)
def znc (P:Program) (ops:Array Oper) (Q:Exit→Act→World→Prop) (S:Array Bool→World→Prop):Nat→Array Bool→Act→World→Prop
 | 0,listed,a,w=>Region.ready .any ops listed=[]∧Q .normal a w
 | fuel+1,listed,a,w =>
  (Region.ready .any ops listed=[]→Q .normal a w) ∧
  ∀ i ∈ Region.ready .any ops listed,wpOp P ops Q i (fun a' w'=>S (listed.setIfInBounds i true) w'∧znc P ops Q S fuel (listed.setIfInBounds i true) a' w') a w
section
variable {P:Program} {ops:Array Oper} {Q:Exit→Act→World→Prop} {S S':Array Bool→World→Prop}
theorem znd:∀ (fuel:Nat) (listed:Array Bool) (a:Act) (w:World),znc P ops Q S fuel listed a w→wpAny P .any ops Q fuel listed a w
 | 0,_,_,_,h=>h
 | fuel+1,_,_,_,h=>⟨h.1,fun i hi=>wpOp_mono (fun a' w' h'=>znd fuel _ a' w' h'.2) (h.2 i hi)⟩
theorem zne {i:Nat} {oi:Oper} {v:Value} {G:World→Prop} (hi:ops[i]?=some oi) (hsel:∀ (j:Nat) (o:Oper) cs b,ops[j]?=some o→o.op ≠ .select cs b)
  (hQ:∀ c a w,Q (.panic c) (a.put oi.dst v) w→Q (.panic c) a w)
  (hG:∀ (l:Array Bool) (j:Nat) (w:World),Closed ops l→l.getD i false=false→j ∈ Region.ready .any ops l→j ≠ i→S' ((l.setIfInBounds i true).setIfInBounds j true) w→G w)
  (hS:∀ (l:Array Bool) (j:Nat) (w:World),S' ((l.setIfInBounds i true).setIfInBounds j true) w→S (l.setIfInBounds j true) w)
  (hA:∀ (l:Array Bool) (w:World),S l w→S (l.setIfInBounds i true) w)
  (hE:∀ (fuel:Nat) (l:Array Bool) (a:Act) (w:World),znc P ops Q S' fuel (l.setIfInBounds i true) a w→znc P ops Q S fuel (l.setIfInBounds i true) a w) :
  ∀ (fuel:Nat) (listed:Array Bool) (a:Act) (w:World),
   (∀ j oj,ops[j]?=some oj→j ≠ i→listed.getD j true=false→(∀ e ∈ oj.after,Region.binds .any e=true→e.on ≠ i)→oi.apart ops oj=true) →
   Closed ops listed→i ∈ Region.ready .any ops listed→YieldsIf P ops G oi v a→G w→S (listed.setIfInBounds i true) w →
   znc P ops Q S' fuel (listed.setIfInBounds i true) (a.put oi.dst v) w→znc P ops Q S (fuel+1) listed a w:=by
 intro fuel
 induction fuel with
 | zero =>
  intro listed a w _ hc hr hy hGw hSw H
  refine ⟨fun h=>(by rw [h] at hr;cases hr),fun j hj=>?_⟩
  by_cases hji:j=i
  ·subst hji;exact hy.wpOp hi hGw ⟨hSw,hE _ _ _ _ H⟩
  ·have:=ready_mono hj hji
   rw [H.1] at this
   cases this
 | succ fuel ih =>
  intro listed a w hfree hc hr hy hGw hSw H
  have hiun:listed.getD i false=false:=zm8 (mem_ready.1 hr).1
  refine ⟨fun h=>(by rw [h] at hr;cases hr),fun j hj=>?_⟩
  by_cases hji:j=i
  ·subst hji;exact hy.wpOp hi hGw ⟨hSw,hE _ _ _ _ H⟩
  ·have h1:=H.2 j (ready_mono hj hji)
   obtain ⟨hjun,oj,hoj,hall⟩:=mem_ready.1 hj
   have hnot:∀ e ∈ oj.after,Region.binds .any e=true→e.on ≠ i:=fun e he hb heq=>by
    have h1:=hall e he hb
    rw [heq,hiun] at h1
    cases h1
   have h2:=wpOp_putIf hoj (hfree j oj hoj hji hjun hnot) (fun cs b=>hsel i oi cs b hi) (fun cs b=>hsel j oj cs b hoj) hQ hy h1
   have hfree':∀ k ok,ops[k]?=some ok→k ≠ i→(listed.setIfInBounds j true).getD k true=false →
     (∀ e ∈ ok.after,Region.binds .any e=true→e.on ≠ i)→oi.apart ops ok=true:=fun k ok hk hki hun hno=>by
    refine hfree k ok hk hki ?_ hno
    by_cases hjk:j=k
    ·subst hjk;exact hjun
    ·rw [getD_set_ne true hjk] at hun;exact hun
   refine wpOp_mono (fun a' w' h3=>?_) h2
   have s1:=hS listed j w' h3.2.1
   refine ⟨s1,ih (listed.setIfInBounds j true) a' w' hfree' (hc.set hj) (ready_mono hr (Ne.symm hji)) h3.1 (hG listed j w' hc hiun hj hji h3.2.1) (hA _ _ s1) ?_⟩
   rw [Array.setIfInBounds_comm _ _ hji]
   exact h3.2.2
end
abbrev TkI:=Nat × Tk
def znf (ops:Array Oper) (tk:List Nat) (l:Array Bool) (i:Nat):Bool:=(List.range ops.size).any fun k=>l.getD k false && !tk.contains k && zm6 ops ops.size k i
def SS (P:Program) (ops:Array Oper) (tk:List Nat) (D:List TkI) (l:Array Bool) (W:World):Prop :=
 ∀ t ∈ D,znf ops tk l t.1=false→Region.wanted t.2.1 (yielded ops t.2.2.2.tmps)=true→(execOp t.2.2.2.eval t.2.1).run P W=.ok (.value t.2.2.1) W
theorem zng {ops:Array Oper} {tk:List Nat} {l:Array Bool} {i:Nat}:znf ops tk l i=false ↔ ∀ k,k < ops.size→l.getD k false=true→k ∉ tk→zm6 ops ops.size k i=false:=by
 unfold znf
 rw [List.any_eq_false]
 constructor
 ·intro h k hk h1 h2
  have:=h k (List.mem_range.2 hk)
  simp only [h1,Bool.true_and,jJ,Bool.not_eq_true',List.contains_eq_mem,decide_eq_false_iff_not,not_and,Bool.not_eq_true] at this
  exact this h2
 ·intro h k hk
  have hk:=List.mem_range.1 hk
  intro hb
  simp only [jJ,Bool.not_eq_true',List.contains_eq_mem,decide_eq_false_iff_not] at hb
  rw [h k hk hb.1.1 hb.1.2] at hb
  cases hb.2
theorem znh {P:Program} {ops:Array Oper} {Q:Exit→Act→World→Prop} {S S':Array Bool→World→Prop} (h:∀ l w,S' l w→S l w):∀ (fuel:Nat) (listed:Array Bool) (a:Act) (w:World),znc P ops Q S' fuel listed a w→znc P ops Q S fuel listed a w
 | 0,_,_,_,H=>H
 | fuel+1,_,_,_,H=>⟨H.1,fun i hi=>wpOp_mono (fun a' w' h'=>⟨h _ _ h'.1,znh h fuel _ a' w' h'.2⟩) (H.2 i hi)⟩
def nmv (ops:List Oper) (k:Nat):Bool:=match ops[k]? with|some o=>!isMv o.op|none=>false
@[irreducible] def U (x:Cx) (ops:List Oper) (tk:List Nat) (fuel:Nat) (listed:Array Bool) (st:St) (K:St→Prop):Prop :=
 ∀ (D:List TkI),D.map (·.1)=tk.filter (nmv ops)→(∀ t ∈ D,ops[t.1]?=some t.2.1)→Closed ops.toArray listed→(∀ k ∈ tk,listed.getD k false=true) →
  ∀ a W,Conc x.W0 x.h0 x.N st a W→FrD ops.toArray (D.map (·.2)) a→SS x.P ops.toArray tk D listed W →
  znc x.P ops.toArray (QN x K) (SS x.P ops.toArray tk D) fuel listed a W
def zni (ops:List Oper) (tk:List Nat) (o:Oper):Bool:=tk.all fun k=>!nmv ops k || match ops[k]? with|some t=>ziE t && ziH ops.toArray t o|none=>false
theorem znj {ops:List Oper} {tk:List Nat} {o:Oper} {D:List TkI} (h:zni ops tk o=true) (hD:D.map (·.1)=tk.filter (nmv ops)) (hop:∀ t ∈ D,ops[t.1]?=some t.2.1):∀ t ∈ D.map (·.2),ziE t.1=true∧ziH ops.toArray t.1 o=true:=by
 intro t ht
 obtain ⟨t',ht',rfl⟩:=List.mem_map.1 ht
 have h1:t'.1 ∈ tk.filter (nmv ops):=by rw [← hD];exact List.mem_map_of_mem ht'
 obtain ⟨h1,h2⟩:=List.mem_filter.1 h1
 have:=List.all_eq_true.1 h _ h1
 rw [h2,hop t' ht'] at this
 simpa using this
def znk (ops:List Oper) (listed:Array Bool) (tk:List Nat) (i:Nat) (o:Oper) (N:Nat):Bool :=
 Region.noSelect ops.toArray && Region.free .any ops.toArray listed i && (Region.ready .any ops.toArray listed).contains i && isQ o.op && ziE o && ziL ops o N && zni ops tk o && !tk.contains i
section
variable {x:Cx} {ops:List Oper} {tk:List Nat} {fuel:Nat} {listed:Array Bool} {st:St} {K:St→Prop}
theorem znl (i:Nat) {o:Oper} (hi:ops[i]?=some o) (hok:znk ops listed tk i o x.N=true)
  (h:isQ o.op=true→st.wf=true→∃ g sv,U x ops (i :: tk) fuel (listed.setIfInBounds i true) (st.put o.dst g sv) K∧sv.lt st.nx=true∧(g=true→Yv x.P x.W0 x.h0 x.N st o sv)∧∀ ρ a,FOk x.N ρ st.e a→Region.wanted o (yielded ops.toArray a.tmps)=g):U x ops tk (fuel+1) listed st K:=by
 unfold U at *
 intro D hD hop hcl htk a W hC hF hS
 simp only [znk,jJ] at hok
 obtain ⟨⟨⟨⟨⟨⟨⟨c1,c2⟩,c3⟩,c4⟩,c5⟩,c6⟩,c7⟩,c8⟩:=hok
 have c8:i ∉ tk:=by simpa using c8
 obtain ⟨ρ,hf,hW,hwf⟩:=hC
 obtain ⟨g,sv,k1,k2,k3,hg⟩:=h c4 hwf
 replace hg:=hg ρ a hf
 unfold ziL at c6
 split at c6
 case h_2=>cases c6
 rename_i d hd
 simp only [jJ,decide_eq_true_eq,Bool.not_eq_true',List.contains_eq_mem,decide_eq_false_iff_not] at c6
 have hi':ops.toArray[i]?=some o:=by simpa using hi
 have hr:i ∈ Region.ready .any ops.toArray listed:=by simpa using c3
 have hiun:listed.getD i false=false:=zm8 (mem_ready.1 hr).1
 have hisz:i < listed.size:=by
  have:=(mem_ready.1 hr).1
  rcases Nat.lt_or_ge i listed.size with h'|h'
  ·exact h'
  ·simp [Array.getD,Nat.not_lt.2 h'] at this
 let v:Value:=if g=true then sv.conc ρ else undef
 have hC':Conc x.W0 x.h0 x.N (st.put o.dst g sv) (a.put o.dst v) W:=Conc.put_q hwf (fun d' e=>by rw [hd] at e;cases e;exact c6.1) hf hW k2 rfl
 have hown:∀ d',o.dst=some d'→d' ∉ o.looksAt ops.toArray:=fun d' e=>by rw [hd] at e;cases e;exact c6.2
 let D':List TkI:=if nmv ops i=true then (i,o,v,a) :: D else D
 have memD':∀ t,t ∈ D'→t=(i,o,v,a)∧nmv ops i=true∨t ∈ D:=by
  intro t ht
  simp only [D'] at ht
  split at ht
  ·rename_i hn
   rcases List.mem_cons.1 ht with rfl|ht
   ·exact .inl ⟨rfl,hn⟩
   ·exact .inr ht
  ·exact .inr ht
 have memD:∀ t,t ∈ D→t ∈ D':=by
  intro t ht
  simp only [D']
  split
  ·exact List.mem_cons_of_mem _ ht
  ·exact ht
 have hFput:FrD ops.toArray (D.map (·.2)) (a.put o.dst v):=hF.put (znj c7 hD hop)
 have hF':FrD ops.toArray (D'.map (·.2)) (a.put o.dst v):=by
  intro t ht
  obtain ⟨t',ht',rfl⟩:=List.mem_map.1 ht
  rcases memD' t' ht' with ⟨rfl,_⟩|ht'
  ·refine ⟨execOp_put o (ziF c5) a o.dst v hown,wanted_put o a o.dst v hown,fun d' e=>?_⟩
   simp only at e
   rw [hd] at e;cases e
   have hsz:d < a.tmps.size:=by rw [hf.2.1];exact c6.1
   simp [Act.put,hd,hsz]
  ·exact hFput _ (List.mem_map_of_mem ht')
 have hD':D'.map (·.1)=(i :: tk).filter (nmv ops):=by
  simp only [D',List.filter_cons]
  split
  ·rw [List.map_cons,hD]
  ·exact hD
 have hop':∀ t ∈ D',ops[t.1]?=some t.2.1:=by
  intro t ht
  rcases memD' t ht with ⟨rfl,_⟩|ht
  ·exact hi
  ·exact hop t ht
 have htk':∀ k ∈ i :: tk,(listed.setIfInBounds i true).getD k false=true:=by
  intro k hk
  rcases List.mem_cons.1 hk with rfl|hk
  ·simp [Array.getD,hisz]
  ·exact zm9 (htk k hk)
 have hrun:g=true→(execOp a.eval o).run x.P W=.ok (.value v) W:=fun hg1=>by
  have:=k3 hg1 ρ a W hf hW
  simp only [v,hg1,if_true]
  exact this
 have anti:∀ (l:Array Bool) (w:World),SS x.P ops.toArray tk D l w→SS x.P ops.toArray tk D (l.setIfInBounds i true) w:=by
  intro l w h t ht hs
  refine h t ht (zng.2 fun k hk h1 h2=>zng.1 hs k hk (zm9 h1) h2)
 have mono':∀ (l:Array Bool) (w:World),SS x.P ops.toArray (i :: tk) D' l w→SS x.P ops.toArray tk D l w:=by
  intro l w h t ht hs
  exact h t (memD t ht) (zng.2 fun k hk h1 h2=>zng.1 hs k hk h1 (fun e=>h2 (List.mem_cons_of_mem _ e)))
 have hS':SS x.P ops.toArray (i :: tk) D' (listed.setIfInBounds i true) W:=by
  intro t ht hs hw
  rcases memD' t ht with ⟨rfl,_⟩|ht
  ·exact hrun (by rw [← hg];exact hw)
  ·refine hS t ht (zng.2 fun k hk h1 h2=>zng.1 hs k hk (zm9 h1) (fun e=>?_)) hw
   rcases List.mem_cons.1 e with rfl|e
   ·rw [hiun] at h1;cases h1
   ·exact h2 e
 let G:World→Prop:=fun w=>g=true→(execOp a.eval o).run x.P w=.ok (.value v) w
 have hy:YieldsIf x.P ops.toArray G o v a:=by
  cases hgg:g with
  | true=>exact .inl ⟨by rw [hg,hgg],fun w hw=>hw hgg⟩
  | false=>exact .inr ⟨by rw [hg,hgg],by simp [v,hgg]⟩
 have hGmv:nmv ops i=false→∀ w,G w:=fun hn w hg1=>by
  have hm:isMv o.op=true:=by simpa [nmv,hi] using hn
  exact ziR hm (hrun hg1) w
 have H:=k1 D' hD' hop' (hcl.set hr) htk' _ W hC' hF' hS'
 refine zne (G:=G) hi' (Region.noSelect_spec c1) ?_ (fun l j w hcl' hl hj hji hs=>?_) (fun l j w hs=>?_) anti (fun fuel l a w h=>znh mono' fuel _ a w h) fuel listed a W (Region.free_spec hi' c2) hcl hr hy hrun (anti _ _ hS) H
 ·rintro c a' w ⟨e,_⟩
  cases e
 ·cases hn:nmv ops i with
  | false=>exact hGmv hn w
  | true =>
   intro hg1
   have hm:(i,o,v,a) ∈ D':=by simp [D',hn]
   refine hs _ hm (zng.2 fun k hk h1 h2=>?_) (by rw [← hg1];exact hg)
   have hki:i ≠ k:=fun e=>h2 (by rw [e];exact List.mem_cons_self ..)
   by_cases hkj:j=k
   ·subst hkj;exact znb hcl' hl hj
   ·rw [zna hkj,zna hki] at h1
    exact zm7 hcl' hl h1
 ·intro t ht hs2
  refine hs t (memD t ht) (zng.2 fun k hk h1 h2=>zng.1 hs2 k hk ?_ (fun e=>h2 (List.mem_cons_of_mem _ e)))
  have hki:i ≠ k:=fun e=>h2 (by rw [e];exact List.mem_cons_self ..)
  by_cases hkj:j=k
  ·subst hkj
   rw [Array.setIfInBounds_comm _ _ hki,zna hki] at h1
   exact h1
  ·rw [zna hkj,zna hki] at h1
   exact zm9 h1
def znm (ops:List Oper) (N:Nat):List (Nat × Oper)→Nat→Array Bool→List Nat→Bool
 | [],_,_,_=>true
 | _ :: _,0,_,_=>false
 | (i,o) :: l,fuel+1,listed,tk=>znk ops listed tk i o N && znm ops N l fuel (listed.setIfInBounds i true) (i :: tk)
def tkA:List Nat→List Nat→List Nat
 | [],tk=>tk
 | i :: l,tk=>tkA l (i :: tk)
theorem znn {K':St→Prop}:∀ {l:List (Nat × Oper)} {fuel:Nat} {listed:Array Bool} {tk:List Nat} {st:St},(∀ io ∈ l,ops[io.1]?=some io.2)→znm ops x.N l fuel listed tk=true →
  vops x.P ops (l.map (·.2)) st K'→(∀ st',K' st'→U x ops (tkA (l.map (·.1)) tk) (fuel - l.length) (zi0 l listed) st' K)→U x ops tk fuel listed st K
 | [],fuel,listed,tk,st,_,_,h,hk=>hk _ h
 | _ :: _,0,_,_,_,_,hok,_,_=>by simp [znm] at hok
 | (i,o) :: l,fuel+1,listed,tk,st,hp,hok,h,hk=>by
  simp only [znm,jJ] at hok
  refine znl i (hp _ (List.mem_cons_self ..)) hok.1 fun hq hwf=>?_
  obtain ⟨g,sv,k1,k2⟩:=ziP (W0:=x.W0) (h0:=x.h0) (N:=x.N) hq hwf h
  exact ⟨g,sv,znn (fun io hi=>hp io (List.mem_cons_of_mem _ hi)) hok.2 k1 (fun st' h'=>by simpa [tkA,zi0] using hk st' h'),k2⟩
theorem zno (is:List Nat) {l:List (Nat × Oper)} (hp:ziW ops is=some l) (hok:znm ops x.N l fuel listed tk=true)
  (h:vops x.P ops (l.map (·.2)) st fun st'=>U x ops (tkA (l.map (·.1)) tk) (fuel - l.length) (zi0 l listed) st' K):U x ops tk fuel listed st K :=
 znn (zi1 hp) hok h fun _ h=>h
def znp (ops:List Oper) (tk:List Nat) (l:Array Bool):List Nat:=(tk.filter (nmv ops)).filter fun k=>!znf ops.toArray tk l k
def znq (x:Cx) (ops:List Oper) (tk:List Nat) (l:Array Bool) (st:St):Prop:=∃ ls,ziW ops (znp ops tk l)=some ls∧vre x.P ops st (ls.map (·.2))
theorem znr {D:List TkI} {a:Act} {W:World} (hD:D.map (·.1)=tk.filter (nmv ops)) (hop:∀ t ∈ D,ops[t.1]?=some t.2.1) (hC:Conc x.W0 x.h0 x.N st a W) (hF:FrD ops.toArray (D.map (·.2)) a) (h:znq x ops tk listed st):SS x.P ops.toArray tk D listed W:=by
 obtain ⟨ls,hp,h⟩:=h
 intro t ht hs
 have hm:t.1 ∈ znp ops tk listed:=by
  refine List.mem_filter.2 ⟨?_,by rw [hs];rfl⟩
  rw [← hD];exact List.mem_map_of_mem ht
 have hm2:t.2.1 ∈ ls.map (·.2):=by
  have aux:∀ {is:List Nat} {l:List (Nat × Oper)},ziW ops is=some l→∀ i ∈ is,∀ o,ops[i]?=some o→o ∈ l.map (·.2):=by
   intro is
   induction is with
   | nil=>intro l _ i hi;cases hi
   | cons j is ih =>
    intro l hl i hi o ho
    simp only [ziW] at hl
    split at hl
    ·rename_i o' l' ho' hl'
     simp only [Option.some.injEq] at hl
     subst hl
     rcases List.mem_cons.1 hi with rfl|hi
     ·rw [ho'] at ho;cases ho;exact List.mem_cons_self ..
     ·exact List.mem_cons_of_mem _ (ih hl' i hi o ho)
    ·cases hl
  exact aux hp _ hm _ (hop t ht)
 have one:∀ {l:List Oper},vre x.P ops st l→∀ o ∈ l,isQ o.op=true∧(vop x.P ops st o fun st'=>dstE o st.e st'.e):=by
  intro l
  induction l with
  | nil=>intro _ o ho;cases ho
  | cons o' l ih =>
   intro hv o ho
   rcases List.mem_cons.1 ho with rfl|ho
   ·exact ⟨hv.1,hv.2.1⟩
   ·exact ih hv.2.2 o ho
 obtain ⟨hq,hv⟩:=one h _ hm2
 have hS:=ziJ (D:=[t.2]) hC (fun t' ht'=>hF t' (by rw [List.mem_singleton.1 ht'];exact List.mem_map_of_mem ht)) ⟨hq,hv,trivial⟩
 exact hS t.2 (List.mem_singleton.2 rfl)
theorem zns (i m:Nat) {o:Oper} (hi:ops[i]?=some o) (hr:Region.ready .any ops.toArray listed=[i]) (hok:(zni ops tk o && (match o.dst with|some d=>decide (d < x.N)|none=>true))=true)
  (h:vopM x ops st o (fun st'=>znq x ops tk (listed.setIfInBounds i true) st'∧U x ops tk fuel (listed.setIfInBounds i true) st' K) m):U x ops tk (fuel+1) listed st K:=by
 simp only [jJ] at hok
 unfold U at *
 intro D hD hop hcl htk a W hC hF hS
 refine ⟨fun h0=>(by rw [hr] at h0;cases h0),fun j hj=>?_⟩
 have hj':=hj
 rw [hr] at hj
 obtain rfl:=List.mem_singleton.1 hj
 have hi':ops.toArray[j]?=some o:=by simpa using hi
 have hd:∀ d',o.dst=some d'→d' < x.N:=by
  intro d' e
  have:=hok.2
  rw [e] at this
  simpa using this
 have htk':∀ k ∈ tk,(listed.setIfInBounds j true).getD k false=true:=fun k hk=>zm9 (htk k hk)
 unfold wpOp
 simp only [hi']
 rcases zmO (QQ:=QN x K) hd h hC with ⟨hw,hwp⟩|⟨hw,st',⟨k1,k2⟩,hC'⟩
 ·rw [if_pos hw]
  left
  refine Oper.wp_mono ?_ (ziK hwp)
  rintro a' W' ⟨⟨u,ds,rfl⟩,st',⟨k1,k2⟩,hC'⟩
  have hF':FrD ops.toArray (D.map (·.2)) (Act.put { a with defers:=ds } o.dst u):=FrD.put (FrD.defers hF) (znj hok.1 hD hop)
  have hS':=znr hD hop hC' hF' k1
  exact ⟨hS',k2 D hD hop (hcl.set hj') htk' _ W' hC' hF' hS'⟩
 ·rw [if_neg (by simp [hw])]
  have hF':FrD ops.toArray (D.map (·.2)) (a.put o.dst undef):=hF.put (znj hok.1 hD hop)
  have hS':=znr hD hop hC' hF' k1
  exact ⟨hS',k2 D hD hop (hcl.set hj') htk' _ W hC' hF' hS'⟩
theorem znt (i m:Nat) (ls:List Nat) {o:Oper} {l:List (Nat × Oper)} (hi:ops[i]?=some o) (hr:Region.ready .any ops.toArray listed=[i]) (hok:(zni ops tk o && (match o.dst with|some d=>decide (d < x.N)|none=>true))=true)
  (hls:znp ops tk (listed.setIfInBounds i true)=ls) (hp:ziW ops ls=some l)
  (h:vopM x ops st o (fun st'=>vre x.P ops st' (l.map (·.2))∧U x ops tk fuel (listed.setIfInBounds i true) st' K) m):U x ops tk (fuel+1) listed st K:=by
 refine zns i m hi hr hok ?_
 subst hls
 have e:(fun st'=>vre x.P ops st' (l.map (·.2))∧U x ops tk fuel (listed.setIfInBounds i true) st' K)=(fun st'=>znq x ops tk (listed.setIfInBounds i true) st'∧U x ops tk fuel (listed.setIfInBounds i true) st' K):=by
  funext st'
  apply propext
  constructor
  ·rintro ⟨h1,h2⟩;exact ⟨⟨l,hp,h1⟩,h2⟩
  ·rintro ⟨⟨l',hp',h1⟩,h2⟩;rw [hp] at hp';cases hp';exact ⟨h1,h2⟩
 rw [← e];exact h
theorem znu (hr:Region.ready .any ops.toArray listed=[]) (h:K st):U x ops tk fuel listed st K:=by
 unfold U
 intro D hD hop hcl htk a W hC hF hS
 match fuel with
 | 0=>exact ⟨hr,rfl,st,h,hC⟩
 | _+1=>exact ⟨fun _=>⟨rfl,st,h,hC⟩,by rw [hr];simp⟩
theorem znv {Q:Exit→St→Prop} {id:Nat} (hm:x.P.follows .mixedOrders=true) (h:U x ops [] ops.length (Array.replicate ops.length false) st fun st'=>Q .normal st'):T x st (.region id ops.toArray true) Q:=by
 unfold T
 unfold U at h
 intro a W hC
 have hcl:Closed ops.toArray (Array.replicate ops.length false):=by
  intro k o _ hk
  simp only [Array.getD_eq_getD_getElem?,Array.getElem?_replicate] at hk
  split at hk <;> cases hk
 have H:=h [] rfl (fun t ht=>by cases ht) hcl (fun k hk=>by cases hk) a _ hC.drew (fun t ht=>by cases ht) (fun t ht=>by cases ht)
 refine Code.wp_mono ?_ (wp_region_any (id:=id) (Q:=QN x fun st'=>Q .normal st') hm (znd _ _ _ _ H))
 rintro e a' W' ⟨rfl,st',hq,hC'⟩
 exact ⟨st',hq,hC'⟩
end
@[go_sem] theorem znw {tk:List Nat}:tkA [] tk=tk:=rfl
@[go_sem] theorem znx {i:Nat} {l tk:List Nat}:tkA (i :: l) tk=tkA l (i :: tk):=rfl
@[congr] theorem zny {x:Cx} {ops:List Oper} {tk:List Nat} {fuel:Nat} {listed:Array Bool} {st st':St} {K:St→Prop} (h:st=st'):U x ops tk fuel listed st K=U x ops tk fuel listed st' K:=by rw [h]
theorem U_1 {x:Cx} {ops:List Oper} {tk:List Nat} {fuel:Nat} {listed:Array Bool} {st:St} {K:St→Prop} (i m:Nat) (ls:List Nat) {o:Oper} {l:List (Nat × Oper)} (hi:ops[i]?=some o) (hp:ziW ops ls=some l)
  (h:vopM x ops st o (fun st'=>vre x.P ops st' (l.map (·.2))∧U x ops tk fuel (listed.setIfInBounds i true) st' K) m) (hr:Region.ready .any ops.toArray listed=[i]:=by kernel_rfl) (hok:(zni ops tk o && (match o.dst with|some d=>decide (d < x.N)|none=>true))=true:=by kernel_rfl)
  (hls:znp ops tk (listed.setIfInBounds i true)=ls:=by kernel_rfl):U x ops tk (fuel+1) listed st K:=znt i m ls hi hr hok hls hp h
theorem U_t {x:Cx} {ops:List Oper} {tk:List Nat} {fuel:Nat} {listed:Array Bool} {st:St} {K:St→Prop} (is:List Nat) {l:List (Nat × Oper)} (hp:ziW ops is=some l)
  (h:vops x.P ops (l.map (·.2)) st fun st'=>U x ops (tkA (l.map (·.1)) tk) (fuel - l.length) (zi0 l listed) st' K) (hok:znm ops x.N l fuel listed tk=true:=by kernel_rfl):U x ops tk fuel listed st K:=zno is hp hok h
theorem U_d {x:Cx} {ops:List Oper} {tk:List Nat} {fuel:Nat} {listed:Array Bool} {st:St} {K:St→Prop} (h:K st) (hr:Region.ready .any ops.toArray listed=[]:=by kernel_rfl):U x ops tk fuel listed st K:=znu hr h
open Go Go.RowKit
instance:Enc Bool where
 size:=1
 enc n:=[.bool n]
 len _:=rfl
 one n u hu:=by simp only [List.mem_singleton] at hu;subst hu;rfl
 ok _ n:=True
 mono _ H:=H
@[go_sem] theorem znz {b:Bool}:Enc.enc b=[.bool b]:=rfl
theorem znA {h:Hp} {s:Sl Bool} (H:s.Ok h) {i:Nat} (hi:i < s.l.length):h.lds (Option.map (·.add (i * 1)) s.a) 1=some [.bool s.l[i]]:=H.at hi
instance:Foot Bool:=⟨fun _=>[],fun _ _=>True,fun H _ _=>⟨H,trivial⟩,fun _ b hb=>by cases hb⟩
theorem znB {α:Type} [Enc α] {l0:List α} {w w':α} {o:Nat} {new:List Value} (h:zbG o new (Enc.enc w)=Enc.enc w') (hl:o+new.length≤Enc.size α) :
  zbG (l0.length * Enc.size α+o) new ((l0 ++ [w]).flatMap Enc.enc)=(l0 ++ [w']).flatMap Enc.enc:=by
 have e1:(l0.flatMap Enc.enc).length=l0.length * Enc.size α:=ziq Enc.len _
 have e2:=Enc.len w
 simp only [List.flatMap_append,List.flatMap_cons,List.flatMap_nil,List.append_nil]
 rw [← h]
 unfold zbG
 rw [List.take_append,List.drop_append,e1]
 rw [List.take_of_length_le (by omega),List.drop_of_length_le (by omega)]
 rw [show l0.length * Enc.size α+o - l0.length * Enc.size α=o by omega,show l0.length * Enc.size α+o+new.length - l0.length * Enc.size α=o+new.length by omega]
 simp
open Go Go.RowKit
def RowAt {α:Type} [Enc α] (e:TypeId) (h:Hp) (s:Sl α):Prop :=
 s.l.length≤s.cap∧s.cap≤maxLen∧((s.a=none∧s.l=[]∧s.cap=0)∨∃ g cur,s.a=some ⟨g,0,none⟩∧h g=some (.cells cur e (0,0))∧cur.size=s.cap * Enc.size α∧cur.toList.take (s.l.length * Enc.size α)=s.l.flatMap Enc.enc)
def znC {α:Type} (h:Hp) (s:Sl α):Hp:=match s.a with|some a=>h.del a.block|none=>h
section
variable {α:Type} [Enc α]
theorem RowAt.ok {e:TypeId} {h:Hp} {s:Sl α} (hp:0 < Enc.size α) (H:RowAt e h s) (hok:∀ x ∈ s.l,Enc.ok h x):s.Ok h:=by
 obtain ⟨h1,h2,⟨ha,hl,hc⟩|⟨g,cur,ha,hb,hsz,htk⟩⟩:=H
 ·refine ⟨h1,fun hne=>(hne hl).elim,fun i x hx=>by rw [hl] at hx;simp at hx,hok,h2⟩
 ·refine ⟨h1,fun _=>by rw [ha];rfl,fun i x hx=>?_,hok,h2⟩
  have hi:i < s.l.length:=(List.getElem?_eq_some_iff.1 hx).1
  rw [ha]
  refine zad (Enc.len x) fun j v hj=>?_
  have hjl:j < Enc.size α:=by rw [← Enc.len x];exact (List.getElem?_eq_some_iff.1 hj).1
  have hfl:(s.l.flatMap Enc.enc)[i * Enc.size α+j]?=some v:=by
   rw [zio Enc.len hp]
   have e1:(i * Enc.size α+j) / Enc.size α=i:=by rw [Nat.add_comm,Nat.add_mul_div_right _ _ hp,Nat.div_eq_of_lt hjl,Nat.zero_add]
   have e2:(i * Enc.size α+j) % Enc.size α=j:=by rw [Nat.add_comm,Nat.add_mul_mod_self_right,Nat.mod_eq_of_lt hjl]
   rw [e1,e2,hx]
   exact hj
  have hlt:i * Enc.size α+j < s.l.length * Enc.size α:=by
   have:(i+1) * Enc.size α≤s.l.length * Enc.size α:=Nat.mul_le_mul_right _ hi
   rw [Nat.add_mul,Nat.one_mul] at this
   omega
  rw [← htk,List.getElem?_take,if_pos hlt] at hfl
  simp only [Option.map_some]
  rw [zir,Nat.zero_add]
  have e3:(Addr.add ⟨g,0,none⟩ (i * Enc.size α+j))=⟨g,i * Enc.size α+j,none⟩:=by rw [za4];simp
  rw [e3]
  simp only [Hp.cell,hb,Option.isSome_none,Bool.false_eq_true,if_false]
  simpa using hfl
theorem RowAt.keep {e:TypeId} {h h':Hp} {s:Sl α} (H:RowAt e h s) (hk:∀ g,s.a=some ⟨g,0,none⟩→h' g=h g):RowAt e h' s:=by
 obtain ⟨h1,h2,H|⟨g,cur,ha,hb,hsz,htk⟩⟩:=H
 ·exact ⟨h1,h2,.inl H⟩
 ·exact ⟨h1,h2,.inr ⟨g,cur,ha,by rw [hk g ha];exact hb,hsz,htk⟩⟩
theorem Pub.row {h h':Hp} {e:TypeId} {l:List α} {ad:Option Addr} {cap:Nat} (H:Pub h e (Enc.size α) l.length (l.flatMap Enc.enc) ad cap h'):RowAt e h' (Sl.mk ad cap l)∧(∀ g,ad=some ⟨g,0,none⟩→h g=none)∧(∀ k,(∀ g,ad=some ⟨g,0,none⟩→k ≠ g)→h' k=h k):=by
 obtain ⟨h1,h2,h3,⟨ha,hn,hc,rfl⟩|⟨g,cur,rfl,hg,rfl,hsz,htk⟩⟩:=H
 ·exact ⟨⟨h2,h3,.inl ⟨ha,List.length_eq_zero_iff.1 hn,hc⟩⟩,fun g e=>(by rw [ha] at e;cases e),fun k _=>rfl⟩
 ·refine ⟨⟨h2,h3,.inr ⟨g,cur,rfl,Hp.ins_same,hsz,htk⟩⟩,fun g' e=>by cases e;exact hg,fun k hk=>Hp.ins_ne (hk g rfl)⟩
theorem znD {x:Cx} {st:St} {c:Code} {Q:Exit→St→Prop} (r:Nat) {e:TypeId} (l:List α) {sz n:Nat} {xs:List Value} (hr:look r st.p=some (.row e sz n xs)) (hsz:sz=Enc.size α) (hn:n=l.length) (hxs:xs=l.flatMap Enc.enc)
  (h:∀ (s:Sl α) h',s.l=l→RowAt e h' s→(∀ g,s.a=some ⟨g,0,none⟩→st.h g=none)→st.h.le h'→(∀ k,(∀ g,s.a=some ⟨g,0,none⟩→k ≠ g)→h' k=st.h k)→T x (st.sub r s.val h') c Q):T x st c Q:=by
 subst hsz hn hxs
 refine zjO r hr fun ad cap h' H=>?_
 obtain ⟨h1,h2,h3⟩:=H.row
 exact h ⟨ad,cap,l⟩ h' rfl h1 h2 H.le h3
theorem znE {x:Cx} {st:St} {t:Nat} {K:St→Prop} {s:Sl α} {e:TypeId} (ht:look t st.e=some (true,.c (.v s.val))) (H:RowAt e st.h s) (hown:∀ g,s.a=some ⟨g,0,none⟩→x.h0 g=none∨x.W0.own g)
  (hk:K ⟨(t,true,.c (.s st.nx)) :: st.e,(st.nx,.row e (Enc.size α) s.l.length (s.l.flatMap Enc.enc)) :: st.p,znC st.h s,st.nx+1⟩):zmH x st t K:=by
 obtain ⟨h1,h2,⟨ha,hl,hc⟩|⟨g,cur,ha,hb,hsz,htk⟩⟩:=H
 ·refine zmT e (Enc.size α) (by rw [ht,Sl.val,ha,hl,hc];rfl) ?_
  rw [hl] at hk
  simpa [znC,ha] using hk
 ·refine zmU (b:=g) (n:=s.l.length) (cap:=s.cap) (cur:=cur) (e:=e) (Enc.size α) (by rw [ht,Sl.val,ha]) hb (hown g ha) hsz h1 h2 ?_
  rw [htk]
  simpa [znC,ha] using hk
end
theorem znF {α:Type} {h h':Hp} {s:Sl α} (hl:h.le h') (hf:∀ g,s.a=some ⟨g,0,none⟩→h g=none) (hz:∀ a,s.a=some a→a.off=0∧a.spot=none):h.le (znC h' s):=by
 intro b o hb
 rcases s with ⟨a,cap,l⟩
 cases a with
 | none=>exact hl b o hb
 | some a =>
  show h'.del a.block b=some o
  simp only [Hp.del]
  split
  ·rename_i e
   obtain ⟨h1,h2⟩:=hz a rfl
   have:a=⟨a.block,0,none⟩:=by cases a;simp only at h1 h2;subst h1 h2;rfl
   have:=hf a.block (by rw [← this])
   rw [e,this] at hb;cases hb
  ·exact hl b o hb
section
variable {α:Type} [Enc α]
theorem RowAt.addr {e:TypeId} {h:Hp} {s:Sl α} (H:RowAt e h s):∀ a,s.a=some a→a.off=0∧a.spot=none:=by
 intro a ha
 obtain ⟨h1,h2,⟨ha',_⟩|⟨g,cur,ha',_⟩⟩:=H
 ·rw [ha] at ha';cases ha'
 ·rw [ha] at ha';cases ha';exact ⟨rfl,rfl⟩
end
theorem znG {α:Type} {h:Hp} {s:Sl α} {k:Nat} (hk:∀ a,s.a=some a→k ≠ a.block):znC h s k=h k:=by
 rcases s with ⟨a,cap,l⟩
 cases a with
 | none=>rfl
 | some a=>exact Hp.del_ne (hk a rfl)
open Go Go.RowKit
structure U64 where
 n:Nat
deriving DecidableEq
instance:Enc U64 where
 size:=1
 enc u:=[.int .u64 u.n]
 len _:=rfl
 one n u hu:=by simp only [List.mem_singleton] at hu;subst hu;rfl
 ok _ u:=u.n < 2 ^ 63
 mono _ H:=H
@[go_sem] theorem znH {b:U64}:Enc.enc b=[.int .u64 b.n]:=rfl
theorem znI {h:Hp} {s:Sl U64} (H:s.Ok h) {i:Nat} (hi:i < s.l.length):h.lds (Option.map (·.add (i * 1)) s.a) 1=some [.int .u64 s.l[i].n]:=H.at hi
instance:Foot U64:=⟨fun _=>[],fun _ _=>True,fun H _ _=>⟨H,trivial⟩,fun _ b hb=>by cases hb⟩
theorem znJ {α:Type} {l:List α} {i:Nat} {a:α} (hi:i < l.length):List.take i l ++ a :: List.drop (i+1) l=l.set i a:=by rw [List.set_eq_take_append_cons_drop,if_pos hi]
theorem znK (l:List U64):l.flatMap Enc.enc=l.map fun u=>Value.int .u64 u.n:=by induction l with|nil=>rfl|cons x l ih=>rw [List.flatMap_cons,ih];rfl
theorem znL (l:List Int):l.flatMap Enc.enc=l.map fun u=>Value.int .i64 u:=by induction l with|nil=>rfl|cons x l ih=>rw [List.flatMap_cons,ih];rfl
open Go Go.RowKit
theorem znM {x:Cx} {st:St} {c d:Code} {Q:Exit→St→Prop} (h:T x st d Q):T x st (.cond (.const (.bool false)) c d) Q:=by
 unfold T at *
 intro a W hC
 exact wp_cond_split (t:=false) (by simp [Act.eval]) (fun e=>by cases e) (fun _=>h a W hC)
open Go Go.RowKit
section
variable {x:Cx} {st:St} {Q Q':Exit→St→Prop}
theorem znN {c:Code} (hq:∀ e st,Q e st→Q' e st) (h:T x st c Q):T x st c Q':=by
 unfold T at *
 intro a W hC
 refine Code.wp_mono ?_ (h a W hC)
 rintro e a' W' ⟨st',h1,h2⟩
 exact ⟨st',hq e st' h1,h2⟩
theorem znO {ι:Type} {c d:Code} (S:ι→St) (ok:ι→Prop) (h:T x st c (zc1 (fun st'=>∃ i,ok i∧st'.le (S i)) Q)) (hr:∀ i,ok i→T x (S i) d Q):T x st c (zc1 (fun st'=>T x st' d Q) Q):=by
 refine znN (fun e st' hq=>?_) h
 cases e with
 | normal =>
  obtain ⟨i,h1,h2⟩:=hq
  exact zdc h2 (hr i h1)
 | _=>exact hq
end
end Go.SL
