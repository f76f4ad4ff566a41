/- What functions of the given program compute, as contracts. -/
import Derived.Test.YtbkaaakphpbmiaaGreatSAfterReadingx12
import Derived.Test.YtbkaaakphpbmiaaGreatSAfterReadingx14
import Derived.Test.YtbkaaakphpbmiaaGreatSAfterReadingx16
import Derived.Test.YtbkaaakphpbmiaaGreatSAfterReadingx20
import Derived.Test.YtbkaaakphpbmiaaGreatXAfterReading19
import Derived.Test.YtbkaaakphpbmiaaGreatXAfterReading8
import Derived.Test.YtbkaaakphpbmiaaGreatXAfterReading9
set_option linter.unusedVariables false
set_option linter.unusedSimpArgs false
set_option maxRecDepth 4000
open Nat renaming reduceAdd → jq, reduceMul → jj, reduceBEq → jy, reduceLeDiff → jv, reduceLT → jk, reduceEqDiff → jx
open Bool renaming or_eq_false_iff → jp, or_eq_true → jQ, and_eq_true → jJ
open Int renaming toNat_natCast → jW, natCast_nonneg → jY
open Go.Proofs.Tryz renaming prog → jV
namespace Go.Proofs.YtbkaaakphpbmiaaGreat
open Go Go.SL
set_option maxHeartbeats 1000000
def zAp (x k:Nat):Prop:=x < 2 ^ k∧(0 < x→0 < k∧2 ^ (k - 1)≤x)
instance (x k:Nat):Decidable (zAp x k):=inferInstanceAs (Decidable (_∧_))
section
variable {both:Nat→Nat→Bool}
end
section
variable {hb h h2:Hp} {b most:Nat} {sets gs:Sl U64} {who:Sl Int}
end
section
variable {hb h h2:Hp} {b most:Nat} {sets gs:Sl U64} {who:Sl Int}
end
theorem zBe {e:TypeId} {h h':Hp} {s:Sl Int} (H:RowAt e h' s) (hf:∀ g,s.a=some ⟨g,0,none⟩→h g=none):Mine h h' s:=by
 by_cases hl:s.l=[]
 ·rcases s with ⟨a,c,l⟩
  simp only at hl;subst hl;exact Mine.nil
 ·obtain ⟨h1,h2,⟨ha,hl',hc⟩|⟨g,cur,ha,hb,hsz,htk⟩⟩:=H
  ·exact (hl hl').elim
  ·have e0:s.l.flatMap (Foot.foot (α:=Int))=[]:=by rw [List.flatMap_eq_nil_iff];exact fun x _=>rfl
   have e1:Foot.foot s=[g]:=by
    rw [show Foot.foot s=_ from Sl.foot_ne hl,e0]
    simp [Sl.blkOf,ha]
   refine ⟨fun _=>⟨⟨g,cur,e,ha,hb,hsz⟩,fun x _=>trivial⟩,fun b hb'=>?_,by rw [e1];simp⟩
   rw [e1,List.mem_singleton] at hb'
   subst hb';exact hf _ ha
theorem zBD {l:List Int} {x:Int} {i:Nat} (hi:i < l.length):(l ++ [x]).getD i 0=l.getD i 0:=by rw [List.getD_eq_getElem?_getD,List.getElem?_append_left hi,← List.getD_eq_getElem?_getD]
theorem zBE {l:List Int} {x:Int} {k:Nat} (h:l.length=k):(l ++ [x]).getD k 0=x:=by subst h;simp only [List.getD_eq_getElem?_getD,List.getElem?_concat_length,Option.getD_some]
theorem zBF {w:List Bool} {m:List Int} {u:List (List DWindow)} {st:Int}:∀ {k:Nat} {l:List Int},slK w m u st k=some l→∀ i,i < k→IntKind.i64.wrap (l.getD i 0+m.getD i 0)≤l.getD (i+1) 0
 | 0,_,_,i,hi=>absurd hi (Nat.not_lt_zero i)
 | k+1,l,h,i,hi=>by
  rw [slK] at h
  obtain ⟨p,hp,h⟩:=Option.bind_eq_some_iff.1 h
  have hl:=zyw hp
  unfold zyr at h
  dsimp only at h
  split at h
  ·cases h
  ·rename_i hc
   rw [not_or] at hc
   have e:=Option.some.inj h
   rw [← e]
   rcases Nat.lt_or_ge i k with hik|hik
   ·rw [zBD (by omega),zBD (by omega)]
    exact zBF hp i hik
   ·obtain rfl:i=k:=by omega
    rw [zBD (by omega),zBE hl]
    exact zyp (by omega)
def Sel (n:Nat) (l:List Int):Prop:=∀ i,i < l.length→0≤l.getD i 0∧l.getD i 0 < n∧(0 < i→l.getD (i - 1) 0 < l.getD i 0)
instance (n:Nat) (l:List Int):Decidable (Sel n l):=inferInstanceAs (Decidable (∀ i,i < l.length→_))
def zBL (n:Nat) (m:List Int):Prop:=m.length=n∧(∀ i (hi:i < m.length),0≤m[i]∧m[i] < m.length)∧∀ i (hi:i < m.length),m.getD m[i].toNat 0=(i:Int)
noncomputable instance (n:Nat) (m:List Int):Decidable (zBL n m):=Classical.propDecidable _
theorem zEt (a:Sl DPart) (h:Hp) (ha:a.Ok h) (hz:a.l.length≤1048576):Ct jV 252 [a.val] h fun v h'=>∃ s:Sl DPart,v=s.val∧s.l=a.l∧s.Ok h'∧Mine h h' s:=by
 have hall:=ha.all (by decide)
 have hd:(h.ldL a.val 3).isSome=true:=by rw [show h.ldL a.val 3=_ from hall];rfl
 refine zdn (fun A W=>by simp) Tryz.func252 rfl rfl (by simp) fun W0=>?_
 repeat' first|refine Wa ?_|(simp only [go_sem,jq,jj,jy,jv,jk,jx,hall,show h.ldL a.val 3=some (a.l.flatMap Enc.enc) from hall,Option.isSome_some,Option.getD_some];try rfl)|refine Wb ?_|fail
 refine ⟨by simp only [maxLen];omega,by omega,?_⟩
 repeat' first|refine Wa ?_|(simp only [go_sem,jq,jj,jy,jv,jk,jx,hall,show h.ldL a.val 3=some (a.l.flatMap Enc.enc) from hall,Option.isSome_some,Option.getD_some];try rfl)|refine Wb ?_|fail
 refine ⟨fun u hu=>by obtain ⟨x,_,hx⟩:=List.mem_flatMap.1 hu;exact Enc.one x u hx,by simp only [maxLen];omega,by omega,?_⟩
 refine zlE 1 a.l rfl rfl (Nat.zero_add _) rfl (by decide) (fun x hx=>ha.2.2.2.1 x hx) h (Hp.le_refl _) (Mines.flat (fun _=>rfl) (fun _=>trivial)) fun s h' e1 e2 e3 e4=>?_
 refine Wk ?_
 exact ⟨s,rfl,e1,e2,e4⟩
theorem zEu (a:Sl DSurge) (h:Hp) (ha:a.Ok h) (hz:a.l.length≤1048576):Ct jV 191 [a.val] h fun v h'=>∃ s:Sl DSurge,v=s.val∧s.l=a.l∧s.Ok h'∧Mine h h' s:=by
 have hall:=ha.all (by decide)
 have hd:(h.ldL a.val 3).isSome=true:=by rw [show h.ldL a.val 3=_ from hall];rfl
 refine zdn (fun A W=>by simp) Tryz.func191 rfl rfl (by simp) fun W0=>?_
 repeat' first|refine Wa ?_|(simp only [go_sem,jq,jj,jy,jv,jk,jx,hall,show h.ldL a.val 3=some (a.l.flatMap Enc.enc) from hall,Option.isSome_some,Option.getD_some];try rfl)|refine Wb ?_|fail
 refine ⟨by simp only [maxLen];omega,by omega,?_⟩
 repeat' first|refine Wa ?_|(simp only [go_sem,jq,jj,jy,jv,jk,jx,hall,show h.ldL a.val 3=some (a.l.flatMap Enc.enc) from hall,Option.isSome_some,Option.getD_some];try rfl)|refine Wb ?_|fail
 refine ⟨fun u hu=>by obtain ⟨x,_,hx⟩:=List.mem_flatMap.1 hu;exact Enc.one x u hx,by simp only [maxLen];omega,by omega,?_⟩
 refine zlE 1 a.l rfl rfl (Nat.zero_add _) rfl (by decide) (fun x hx=>ha.2.2.2.1 x hx) h (Hp.le_refl _) (Mines.flat (fun _=>rfl) (fun _=>trivial)) fun s h' e1 e2 e3 e4=>?_
 refine Wk ?_
 exact ⟨s,rfl,e1,e2,e4⟩
theorem zEv (a:Sl DPoint) (h:Hp) (ha:a.Ok h) (hz:a.l.length≤1048576):Ct jV 197 [a.val] h fun v h'=>∃ s:Sl DPoint,v=s.val∧s.l=a.l∧s.Ok h'∧Mine h h' s:=by
 have hall:=ha.all (by decide)
 have hd:(h.ldL a.val 2).isSome=true:=by rw [show h.ldL a.val 2=_ from hall];rfl
 refine zdn (fun A W=>by simp) Tryz.func197 rfl rfl (by simp) fun W0=>?_
 repeat' first|refine Wa ?_|(simp only [go_sem,jq,jj,jy,jv,jk,jx,hall,show h.ldL a.val 2=some (a.l.flatMap Enc.enc) from hall,Option.isSome_some,Option.getD_some];try rfl)|refine Wb ?_|fail
 refine ⟨by simp only [maxLen];omega,by omega,?_⟩
 repeat' first|refine Wa ?_|(simp only [go_sem,jq,jj,jy,jv,jk,jx,hall,show h.ldL a.val 2=some (a.l.flatMap Enc.enc) from hall,Option.isSome_some,Option.getD_some];try rfl)|refine Wb ?_|fail
 refine ⟨fun u hu=>by obtain ⟨x,_,hx⟩:=List.mem_flatMap.1 hu;exact Enc.one x u hx,by simp only [maxLen];omega,by omega,?_⟩
 refine zlE 1 a.l rfl rfl (Nat.zero_add _) rfl (by decide) (fun x hx=>ha.2.2.2.1 x hx) h (Hp.le_refl _) (Mines.flat (fun _=>rfl) (fun _=>trivial)) fun s h' e1 e2 e3 e4=>?_
 refine Wk ?_
 exact ⟨s,rfl,e1,e2,e4⟩
theorem zEw (a:Sl DSegment) (h:Hp) (ha:a.Ok h) (hz:a.l.length≤1048576):Ct jV 198 [a.val] h fun v h'=>∃ s:Sl DSegment,v=s.val∧s.l=a.l∧s.Ok h'∧Mine h h' s:=by
 have hall:=ha.all (by decide)
 have hd:(h.ldL a.val 5).isSome=true:=by rw [show h.ldL a.val 5=_ from hall];rfl
 refine zdn (fun A W=>by simp) Tryz.func198 rfl rfl (by simp) fun W0=>?_
 repeat' first|refine Wa ?_|(simp only [go_sem,jq,jj,jy,jv,jk,jx,hall,show h.ldL a.val 5=some (a.l.flatMap Enc.enc) from hall,Option.isSome_some,Option.getD_some];try rfl)|refine Wb ?_|fail
 refine ⟨by simp only [maxLen];omega,by omega,?_⟩
 repeat' first|refine Wa ?_|(simp only [go_sem,jq,jj,jy,jv,jk,jx,hall,show h.ldL a.val 5=some (a.l.flatMap Enc.enc) from hall,Option.isSome_some,Option.getD_some];try rfl)|refine Wb ?_|fail
 refine ⟨fun u hu=>by obtain ⟨x,_,hx⟩:=List.mem_flatMap.1 hu;exact Enc.one x u hx,by simp only [maxLen];omega,by omega,?_⟩
 refine zlE 1 a.l rfl rfl (Nat.zero_add _) rfl (by decide) (fun x hx=>ha.2.2.2.1 x hx) h (Hp.le_refl _) (Mines.flat (fun _=>rfl) (fun _=>trivial)) fun s h' e1 e2 e3 e4=>?_
 refine Wk ?_
 exact ⟨s,rfl,e1,e2,e4⟩
theorem zEx (a:Sl DShip) (h:Hp) (ha:a.Ok h) (hz:a.l.length≤1048576):Ct jV 199 [a.val] h fun v h'=>∃ s:Sl DShip,v=s.val∧s.l=a.l∧s.Ok h'∧Mine h h' s:=by
 have hall:=ha.all (by decide)
 have hd:(h.ldL a.val 6).isSome=true:=by rw [show h.ldL a.val 6=_ from hall];rfl
 refine zdn (fun A W=>by simp) Tryz.func199 rfl rfl (by simp) fun W0=>?_
 repeat' first|refine Wa ?_|(simp only [go_sem,jq,jj,jy,jv,jk,jx,hall,show h.ldL a.val 6=some (a.l.flatMap Enc.enc) from hall,Option.isSome_some,Option.getD_some];try rfl)|refine Wb ?_|fail
 refine ⟨by simp only [maxLen];omega,by omega,?_⟩
 repeat' first|refine Wa ?_|(simp only [go_sem,jq,jj,jy,jv,jk,jx,hall,show h.ldL a.val 6=some (a.l.flatMap Enc.enc) from hall,Option.isSome_some,Option.getD_some];try rfl)|refine Wb ?_|fail
 refine ⟨fun u hu=>by obtain ⟨x,_,hx⟩:=List.mem_flatMap.1 hu;exact Enc.one x u hx,by simp only [maxLen];omega,by omega,?_⟩
 refine zlE 1 a.l rfl rfl (Nat.zero_add _) rfl (by decide) (fun x hx=>ha.2.2.2.1 x hx) h (Hp.le_refl _) (Mines.flat (fun _=>rfl) (fun _=>trivial)) fun s h' e1 e2 e3 e4=>?_
 refine Wk ?_
 exact ⟨s,rfl,e1,e2,e4⟩
theorem zEy (c:DTide) (h:Hp) (hc:Enc.ok h c) (hz:c.parts.l.length≤1048576):Ct jV 190 [.agg #[.int .i64 c.mean,c.parts.val]] h fun v h'=>∃ d:DTide,v=.agg #[.int .i64 d.mean,d.parts.val]∧Con.con d=Con.con c∧Enc.ok h' d∧Mine h h' d:=by
 obtain ⟨o_mean,o_parts⟩:=hc
 refine zdn (fun A W=>by simp) Tryz.func190 rfl rfl (by simp) fun W0=>?_
 refine Wk ?_
 refine znv rfl ?_
 refine U_t [0,2,1,3] rfl ?_
 refine Evs ?_
 refine U_1 4 0 [1,0] rfl rfl ?_
 refine Evs ?_
 refine zkj (zEt c.parts _ o_parts hz) rfl ?_
 rintro v h_0 le_0 ⟨s_0,rfl,e_0,ok_0,m_0⟩
 refine Evs ?_
 refine U_1 5 0 [] rfl rfl ?_
 refine Evs ?_
 refine U_1 6 0 [] rfl rfl ?_
 refine Evs ?_
 refine U_d ?_
 refine Wk ?_
 exact ⟨⟨c.mean,s_0⟩,rfl,by rw [zkJ,zkJ,zkq,zkq,e_0],⟨o_mean,ok_0⟩,News.mine (m_0.1) m_0.news⟩
theorem zEz (c:DForecast) (h:Hp) (hc:Enc.ok h c) (hz:c.tide.parts.l.length≤1048576) (hz2:c.surges.l.length≤1048576):Ct jV 196 [.agg #[.int .i64 c.tide.mean,c.tide.parts.val,c.surges.val]] h fun v h'=>∃ d:DForecast,v=.agg #[.int .i64 d.tide.mean,d.tide.parts.val,d.surges.val]∧Con.con d=Con.con c∧Enc.ok h' d∧Mine h h' d:=by
 obtain ⟨o_tide,o_surges⟩:=hc
 refine zdn (fun A W=>by simp) Tryz.func196 rfl rfl (by simp) fun W0=>?_
 refine Wk ?_
 refine znv rfl ?_
 refine U_t [0,3,1,4] rfl ?_
 refine Evs ?_
 refine U_1 2 0 [4,3] rfl rfl ?_
 refine Evs ?_
 refine zkj (zEy c.tide _ o_tide hz) rfl ?_
 rintro v h_0 le_0 ⟨s_0,rfl,e_0,ok_0,m_0⟩
 refine Evs ?_
 refine U_1 5 0 [] rfl rfl ?_
 refine Evs ?_
 refine zkj (zEu c.surges _ (o_surges.mono le_0) hz2) rfl ?_
 rintro v h_1 le_1 ⟨s_1,rfl,e_1,ok_1,m_1⟩
 refine Evs ?_
 refine U_1 6 0 [] rfl rfl ?_
 refine Evs ?_
 refine U_1 7 0 [] rfl rfl ?_
 refine Evs ?_
 refine U_d ?_
 refine Wk ?_
 exact ⟨⟨s_0,s_1⟩,rfl,by rw [zkO,zkO,e_0,zkq,zkq,e_1],⟨Enc.mono le_1 ok_0,ok_1⟩,News.mine ⟨(Mine.on le_1 ok_0 m_0).1,m_1.1⟩ (m_0.news.append le_0 le_1 m_1.news)⟩
structure Lens (c:DHarbour):Prop where
 pa:c.forecast.tide.parts.l.length≤1048576
 su:c.forecast.surges.l.length≤1048576
 po:c.chart.points.l.length≤1048576
 se:c.chart.segments.l.length≤1048576
 fl:c.fleet.l.length≤1048576
 mo:c.crew.moves.l.length≤1048576
theorem zEA {h h0 h1 h2 h3 h4:Hp} {c:DHarbour} {f:DForecast} {p:Sl DPoint} {g:Sl DSegment} {s:Sl DShip} {m:Sl Int} (hc:Enc.ok h c) (le0:h.le h0) (le1:h0.le h1) (le2:h1.le h2) (le3:h2.le h3) (le4:h3.le h4) (kf:Enc.ok h0 f) (kp:p.Ok h1) (kg:g.Ok h2) (ks:s.Ok h3) (km:m.Ok h4)
  (mf:Mine h h0 f) (mp:Mine h0 h1 p) (mg:Mine h1 h2 g) (ms:Mine h2 h3 s) (mm:Mine h3 h4 m):Enc.ok h4 (DHarbour.mk f ⟨p,g⟩ s c.regime ⟨c.crew.tugs,c.crew.pilots,c.crew.rest,m⟩)∧Mine h h4 (DHarbour.mk f ⟨p,g⟩ s c.regime ⟨c.crew.tugs,c.crew.pilots,c.crew.rest,m⟩):=by
 obtain ⟨_,_,_,o_regime,⟨c1,c2,c3,_⟩⟩:=hc
 have kc:Enc.ok h2 (DChart.mk p g):=⟨kp.mono le2,kg⟩
 have mc:Mine h0 h2 (DChart.mk p g):=News.mine ⟨(Mine.on le2 kp mp).1,mg.1⟩ (mp.news.append le1 le2 mg.news)
 have kw:Enc.ok h4 (DCrew.mk c.crew.tugs c.crew.pilots c.crew.rest m):=⟨c1,c2,c3,km⟩
 have mw:Mine h3 h4 (DCrew.mk c.crew.tugs c.crew.pilots c.crew.rest m):=News.mine mm.1 mm.news
 have le12:=Hp.le_trans le1 le2
 exact ⟨⟨Enc.mono (Hp.le_trans (Hp.le_trans le12 le3) le4) kf,Enc.mono (Hp.le_trans le3 le4) kc,ks.mono le4,o_regime,kw⟩,News.mine ⟨(Mine.on (Hp.le_trans (Hp.le_trans le12 le3) le4) kf mf).1,(Mine.on (Hp.le_trans le3 le4) kc mc).1,(Mine.on le4 ks ms).1,mw.1⟩ (((mf.news.append le0 le12 mc.news).append (Hp.le_trans le0 le12) le3 ms.news).append (Hp.le_trans (Hp.le_trans le0 le12) le3) le4 mw.news)⟩
set_option maxRecDepth 30000 in
theorem zEB (c:DHarbour) (h:Hp) (hc:Enc.ok h c) (hz:Lens c):Ct jV 116 [.agg #[.int .i64 c.forecast.tide.mean,c.forecast.tide.parts.val,c.forecast.surges.val,c.chart.points.val,c.chart.segments.val,c.fleet.val,.int .i64 c.regime.gap,.bool c.regime.noMeet,.int .i64 c.crew.tugs,.int .i64 c.crew.pilots,.int .i64 c.crew.rest,c.crew.moves.val]] h fun v h'=>∃ d:DHarbour,v=.agg #[.int .i64 d.forecast.tide.mean,d.forecast.tide.parts.val,d.forecast.surges.val,d.chart.points.val,d.chart.segments.val,d.fleet.val,.int .i64 d.regime.gap,.bool d.regime.noMeet,.int .i64 d.crew.tugs,.int .i64 d.crew.pilots,.int .i64 d.crew.rest,d.crew.moves.val]∧Con.con d=Con.con c∧Enc.ok h' d∧Mine h h' d:=by
 have hc0:=hc
 obtain ⟨o_forecast,⟨o_points,o_segments⟩,o_fleet,o_regime,⟨o1,o2,o3,o_moves⟩⟩:=hc
 refine zdn (fun A W=>by simp) Tryz.func116 rfl rfl (by simp) fun W0=>?_
 refine Wk ?_
 refine zkj (zEz c.forecast _ o_forecast hz.pa hz.su) rfl ?_
 rintro v h_0 le_0 ⟨s_0,rfl,e_0,ok_0,m_0⟩
 refine Wk ?_
 refine znv rfl ?_
 refine U_t [0,4,1,5,2,6] rfl ?_
 refine Evs ?_
 refine U_1 3 0 [6,5,4] rfl rfl ?_
 refine Evs ?_
 refine zkj (zEv c.chart.points _ (o_points.mono le_0) hz.po) rfl ?_
 rintro v h_1 le_1 ⟨s_1,rfl,e_1,ok_1,m_1⟩
 refine Evs ?_
 refine U_1 7 0 [] rfl rfl ?_
 refine Evs ?_
 refine zkj (zEw c.chart.segments _ (o_segments.mono (Hp.le_trans le_0 le_1)) hz.se) rfl ?_
 rintro v h_2 le_2 ⟨s_2,rfl,e_2,ok_2,m_2⟩
 refine Evs ?_
 refine U_1 8 0 [] rfl rfl ?_
 refine Evs ?_
 refine U_t [9] rfl ?_
 refine Evs ?_
 refine U_1 10 0 [] rfl rfl ?_
 refine Evs ?_
 refine U_d ?_
 refine Wk ?_
 refine zkj (zEx c.fleet _ (o_fleet.mono (Hp.le_trans (Hp.le_trans le_0 le_1) le_2)) hz.fl) rfl ?_
 rintro v h_3 le_3 ⟨s_3,rfl,e_3,ok_3,m_3⟩
 refine Wk ?_
 refine zkj (zx0 c.crew.moves _ (o_moves.mono (Hp.le_trans (Hp.le_trans (Hp.le_trans le_0 le_1) le_2) le_3)) hz.mo) rfl ?_
 rintro v h_4 le_4 ⟨s_4,rfl,e_4,R_4,f_4⟩
 refine Wk ?_
 have ok_4:s_4.Ok h_4:=R_4.ok (by decide) fun x hx=>by rw [e_4] at hx;exact o_moves.2.2.2.1 x hx
 have m_4:Mine h_3 h_4 s_4:=zBe R_4 f_4
 obtain ⟨kk,mm⟩:=zEA hc0 le_0 le_1 le_2 le_3 le_4 ok_0 ok_1 ok_2 ok_3 ok_4 m_0 m_1 m_2 m_3 m_4
 exact ⟨⟨s_0,⟨s_1,s_2⟩,s_3,c.regime,⟨c.crew.tugs,c.crew.pilots,c.crew.rest,s_4⟩⟩,rfl,by rw [zk3,zk3,zkW,zkW,zkE,zkE,e_0];simp only [zkq,e_1,e_2,e_3,zkr,e_4],kk,mm⟩
def z12 (s:DSurge) (lo hi:Int):DSurge:=⟨s.src,max s.low lo,min s.high hi⟩
theorem z13 (s:DSurge) (lo hi:Int) (h:Hp):Ct jV 189 [.agg #[.int .i64 s.src,.int .i64 s.low,.int .i64 s.high],.int .i64 lo,.int .i64 hi] h fun v h'=>v=.agg #[.int .i64 (z12 s lo hi).src,.int .i64 (z12 s lo hi).low,.int .i64 (z12 s lo hi).high]∧h'=h:=by
 refine zdn (fun A W=>by simp) Tryz.func189 rfl rfl (by simp) fun W0=>?_
 exact Wk0
theorem z14 (c:DHarbour) (f:DForecast) (h:Hp):Ct jV 113 [c.v,f.v] h fun v h'=>v=({ c with forecast:=f }:DHarbour).v∧h'=h:=by
 refine zdn (fun A W=>by simp) Tryz.func113 rfl rfl (by simp) fun W0=>?_
 exact Wk0
theorem z15 (c:DTide) (h:Hp) (hc:Enc.ok h c) (hz:c.parts.l.length≤1048576):Ct jV 188 [.agg #[.int .i64 c.mean,c.parts.val]] h fun v h'=>∃ d:DTide,v=.agg #[.int .i64 d.mean,d.parts.val]∧Con.con d=Con.con c∧Enc.ok h' d∧h.le h':=by
 obtain ⟨o_mean,o_parts⟩:=hc
 have hall:=o_parts.all (by decide)
 have hall:h.ldL c.parts.val 3=some (c.parts.l.flatMap Enc.enc):=hall
 refine zdn (fun A W=>by simp) Tryz.func188 rfl rfl (by simp) fun W0=>?_
 refine Wk ?_
 refine znv rfl ?_
 refine U_t [0,3,1,4] rfl ?_
 simp only [go_sem,jq,jj,jy,jv,jk,jx,hall,Option.isSome_some,Option.getD_some,true_and,Nat.zero_add,List.nil_append]
 refine U_1 2 0 [4,1,3,0] rfl rfl ?_
 simp only [go_sem,jq,jj,jy,jv,jk,jx,hall,Option.isSome_some,Option.getD_some,true_and,Nat.zero_add,List.nil_append]
 refine U_1 5 0 [1,0] rfl rfl ?_
 simp only [go_sem,jq,jj,jy,jv,jk,jx,hall,Option.isSome_some,Option.getD_some,true_and,Nat.zero_add,List.nil_append]
 refine ⟨fun u hu=>by obtain ⟨x,_,hx⟩:=List.mem_flatMap.1 hu;exact Enc.one x u hx,by simp only [maxLen];omega,by omega,?_⟩
 try simp only [go_sem,jq,jj,jy,jv,jk,jx]
 refine zn9 3 c.parts.l rfl rfl rfl rfl fun s_0 h_0 e_0 R_0 f_0 l_0 k_0=>?_
 try simp only [go_sem,jq,jj,jy,jv,jk,jx]
 refine U_1 6 0 [] rfl rfl ?_
 simp only [go_sem,jq,jj,jy,jv,jk,jx,hall,Option.isSome_some,Option.getD_some,true_and,Nat.zero_add,List.nil_append]
 refine U_1 7 0 [] rfl rfl ?_
 simp only [go_sem,jq,jj,jy,jv,jk,jx,hall,Option.isSome_some,Option.getD_some,true_and,Nat.zero_add,List.nil_append]
 refine U_d ?_
 refine Wk ?_
 have ok_0:s_0.Ok h_0:=R_0.ok (by decide) fun x hx=>by rw [e_0] at hx;exact Enc.mono l_0 (o_parts.2.2.2.1 x hx)
 exact ⟨⟨c.mean,s_0⟩,rfl,by rw [zkJ,zkJ,zkq,zkq,e_0],⟨o_mean,ok_0⟩,l_0⟩
def revA (l:List DSurge) (m lo hi:Int):List DSurge:=(if (l.getD (zvR l m) dS).src=m then l.take (zvR l m) else l.take (zvR l m+1)) ++ [⟨m,max (l.getD (zvR l m) dS).low lo,min (l.getD (zvR l m) dS).high hi⟩] ++ l.drop (zvR l m+1)
def revB (l:List DSurge) (m lo hi:Int):List DSurge:=l.filter (fun s=>decide (s.src < m)) ++ [⟨m,max (l.getD (zvR l m) dS).low lo,min (l.getD (zvR l m) dS).high hi⟩] ++ l.filter (fun s=>decide (m < s.src))
theorem zDS {l:List DSurge} {m:Int}:∀ {k:Nat},k≤l.length→∀ j (hj:j < l.length),zvQ l m k < j→j < k→m < l[j].src
 | 0,_,j,hj,_,h2=>by omega
 | k+1,hk,j,hj,h1,h2=>by
  have hkl:k < l.length:=by omega
  by_cases h:l[k].src≤m
  ·rw [zvU hkl h] at h1;omega
  ·rw [zvV hkl h] at h1
   rcases Nat.lt_or_ge j k with h3|h3
   ·exact zDS (by omega) j hj h1 h3
   ·obtain rfl:j=k:=by omega
    omega
theorem zDT {l:List DSurge} {m:Int}:∀ {k:Nat},k≤l.length→(∀ (h:0 < l.length),l[0].src≤m)→∀ (hs:zvQ l m k < l.length),0 < k→l[zvQ l m k].src≤m
 | 0,_,_,_,h=>by omega
 | k+1,hk,h0,hs,_=>by
  have hkl:k < l.length:=by omega
  by_cases h:l[k].src≤m
  ·simp only [zvU hkl h];exact h
  ·simp only [zvV hkl h] at hs ⊢
   rcases Nat.eq_zero_or_pos k with rfl|hp
   ·exact absurd (h0 hkl) h
   ·exact zDT (by omega) h0 hs hp
theorem z16 {l:List DSurge} {m lo hi:Int} (hn:0 < l.length) (h0:l[0].src≤m) (asc:∀ i j (hi:i < l.length) (hj:j < l.length),i < j→l[i].src < l[j].src):revA l m lo hi=revB l m lo hi:=by
 have hk:zvR l m < l.length:=zvT hn
 have hat:l[zvR l m].src≤m:=zDT (Nat.le_refl _) (fun _=>h0) hk hn
 have haf:∀ j (hj:j < l.length),zvR l m < j→m < l[j].src:=fun j hj h=>zDS (Nat.le_refl _) j hj h hj
 rw [revA,revB]
 generalize hke:zvR l m=k at *
 have hg:l.getD k dS=l[k]:=by simp [List.getD_eq_getElem?_getD,hk]
 rw [hg]
 have hsp:l=l.take k ++ [l[k]] ++ l.drop (k+1):=by
  rw [List.append_assoc,List.singleton_append,List.getElem_cons_drop,List.take_append_drop]
 have ht:∀ s ∈ l.take k,s.src < m:=fun s hs=>by
  obtain ⟨i,hi,rfl⟩:=List.getElem_of_mem hs
  rw [List.length_take] at hi
  rw [List.getElem_take]
  have:=asc i k (by omega) hk (by omega)
  omega
 have hd:∀ s ∈ l.drop (k+1),m < s.src:=fun s hs=>by
  obtain ⟨i,hi,rfl⟩:=List.getElem_of_mem hs
  rw [List.length_drop] at hi
  rw [List.getElem_drop]
  exact haf _ (by omega) (by omega)
 have n1:(l.drop (k+1)).filter (fun s=>decide (s.src < m))=[]:=List.filter_eq_nil_iff.2 fun s hs=>by have:=hd s hs;rw [decide_eq_true_eq];omega
 have n2:(l.take k).filter (fun s=>decide (m < s.src))=[]:=List.filter_eq_nil_iff.2 fun s hs=>by have:=ht s hs;rw [decide_eq_true_eq];omega
 have f1:l.filter (fun s=>decide (s.src < m))=l.take k ++ (if l[k].src=m then [] else [l[k]]):=by
  conv=>lhs;rw [hsp]
  rw [List.filter_append,List.filter_append,List.filter_eq_self.2 (fun s hs=>decide_eq_true (ht s hs)),n1,List.append_nil]
  by_cases e:l[k].src=m
  ·rw [if_pos e,List.filter_cons_of_neg (by rw [decide_eq_true_eq];omega)];rfl
  ·rw [if_neg e,List.filter_cons_of_pos (by rw [decide_eq_true_eq];omega)];rfl
 have f2:l.filter (fun s=>decide (m < s.src))=l.drop (k+1):=by
  conv=>lhs;rw [hsp]
  rw [List.filter_append,List.filter_append,n2,List.filter_eq_self.2 (fun s hs=>decide_eq_true (hd s hs)),List.filter_cons_of_neg (by rw [decide_eq_true_eq];omega)]
  rfl
 rw [f1,f2]
 by_cases e:l[k].src=m
 ·rw [if_pos e,if_pos e,List.append_nil]
 ·rw [if_neg e,if_neg e,List.take_succ_eq_append_getElem hk]
def zDU (f:PForecast) (m lo hi:Int):Option PForecast:=if zuY f=true∧0≤m∧m≤2880 then (if zuY { f with surges:=revA f.surges m lo hi }=true then some { f with surges:=revA f.surges m lo hi } else none) else none
end Go.Proofs.YtbkaaakphpbmiaaGreat
