/- What functions of the given program compute, as contracts. -/
import Derived.Test.YtdeflkhkfmjckaaGreatSGFnTopx5
import Derived.Test.YtdeflkhkfmjckaaGreatXGFnTop12
import Derived.Test.YtdeflkhkfmjckaaGreatXGFnTop7
import Derived.Test.YtdeflkhkfmjckaaGreatXGFnTop9
set_option linter.unusedVariables false
set_option linter.unusedSimpArgs false
set_option maxRecDepth 4000
open Nat renaming reduceAdd → jq, reduceMul → jj, reduceBEq → jy, reduceLeDiff → jv, reduceLT → jk, reduceEqDiff → jx
open Bool renaming or_eq_false_iff → jp, or_eq_true → jQ, and_eq_true → jJ
open Int renaming toNat_natCast → jW, natCast_nonneg → jY
open Go.Proofs.Tryz renaming prog → jV
namespace Go.Proofs.YtdeflkhkfmjckaaGreat
open Go Go.SL
set_option maxHeartbeats 1000000
theorem zCa {P:Nat→Prop} (h:∃ n,P n):∃ n,P n∧∀ m,P m→n≤m:=by
 classical
 obtain ⟨n,hn⟩:=h
 induction n using Nat.strongRecOn with
 | _ n ih =>
  by_cases hc:∃ m,m < n∧P m
  ·obtain ⟨m,hm,hp⟩:=hc;exact ih m hm hp
  ·exact ⟨n,hn,fun m hm=>Nat.le_of_not_lt fun hlt=>hc ⟨m,hlt,hm⟩⟩
theorem zCb {both:Nat→Nat→Bool} {n:Nat}:∃ w k,zA4 both n=some (w,k)∧CovOn both (fun i=>i < n) k∧(∀ j,CovOn both (fun i=>i < n) j→k≤j)∧k≤n:=by
 obtain ⟨k,h1,h2⟩:=zCa (P:=fun k=>CovOn both (fun i=>i < n) k) ⟨n,CovOn.id fun i hi=>hi⟩
 obtain ⟨w,hw⟩:=Option.isSome_iff_exists.1 (zA7.2 h1)
 have hm:k≤n:=h2 n (CovOn.id fun i hi=>hi)
 refine ⟨w,k,zA8 (fun j hj=>?_) hw hm,h1,h2,hm⟩
 cases hh:znR both j n [] with
 | none=>rfl
 | some w' =>
  have:=h2 j (zA7.1 (by rw [hh];rfl))
  omega
theorem zCc {p:Int} {m:List Int} {l:List DDuty} (h:zA5 p m l=true):0≤(zA6 p m l).2.1∧(zA6 p m l).2.1≤l.length∧∀ k:Int,(zA6 p m l).2.1≤k ↔ 0≤k∧CovOn (zA3 p m l) (fun i=>i < l.length) k.toNat:=by
 obtain ⟨w,n,h1,h2,h3,h4⟩:=zCb (both:=zA3 p m l) (n:=l.length)
 rw [zBd h h1]
 refine ⟨jY _,by simp only;omega,fun k=>⟨fun hk=>?_,fun hk=>?_⟩⟩
 ·simp only at hk
  exact ⟨by omega,h2.mono (by omega)⟩
 ·have:=h3 _ hk.2
  simp only;omega
def zKT (p:Int) (m:List Int) (l:List DDuty) (k:Int):Bool:=decide ((l.length:Int)≤k) || decide ((zA6 p m l).2.1≤k)
theorem zKU {p:Int} {m:List Int} {l:List DDuty} {k:Int} (h:zA5 p m l=true):zKT p m l k=In (zA6 p m l).2.1 0 k:=by
 obtain ⟨h1,h2,_⟩:=zCc h
 rw [zKT,In,Bool.eq_iff_iff]
 simp only [jQ,jJ,decide_eq_true_eq]
 omega
theorem zKV {l l2:List DDuty} (h:zz2 (l ++ l2)=true):zz2 l=true:=by
 rw [zz2,jJ,decide_eq_true_eq,List.all_eq_true] at h ⊢
 rw [List.length_append] at h
 exact ⟨by omega,fun x hx=>h.2 x (List.mem_append_left _ hx)⟩
theorem zKW {p:Int} {m:List Int} {l l2:List DDuty} {k:Int} (hp:In p 0 2880=true) (hm:zvm m=true) (hd:zz2 (l ++ l2)=true) (h:zKT p m (l ++ l2) k=true):zKT p m l k=true:=by
 have c1:zA5 p m (l ++ l2)=true:=by rw [zA5,hd,hp,hm];rfl
 have c2:zA5 p m l=true:=by rw [zA5,zKV hd,hp,hm];rfl
 rw [zKU c1,In,jJ,decide_eq_true_eq,decide_eq_true_eq] at h
 obtain ⟨a1,a2,a3⟩:=zCc c1
 obtain ⟨b1,b2,b3⟩:=zCc c2
 obtain ⟨h0,g,g1,g2⟩:=(a3 k).1 h.2
 rw [zKU c2,In,jJ,decide_eq_true_eq,decide_eq_true_eq]
 refine ⟨b1,(b3 k).2 ⟨h0,g,fun i hi=>g1 i (by rw [List.length_append];omega),fun i j hi hj hji he=>?_⟩⟩
 have:=g2 i j (by rw [List.length_append];omega) (by rw [List.length_append];omega) hji he
 rw [zA3] at this ⊢
 rw [List.getD_eq_getElem?_getD,List.getD_eq_getElem?_getD,List.getElem?_append_left hi,List.getElem?_append_left hj] at this
 rw [List.getD_eq_getElem?_getD,List.getD_eq_getElem?_getD];exact this
def pilD (c:zFb) (l:List POption):List DDuty:=(l.filter fun o=>decide (0 < o.pas.length)).map fun o=>zxA c (o.pas.getD 0 dQ) (o.pas.getD (o.pas.length - 1) dQ)
def zKX (x:zFc) (l:List POption):Bool:=match zJ4 x.chart x.fleet (l.flatMap (·.pas)) with
 | none=>false
 | some d=>zKT 0 x.crew.moves d x.crew.tugs && zKT x.crew.rest x.crew.moves (pilD x.chart l) x.crew.pilots
theorem zCd {c:zFb} {f:List DShip}:∀ {l:List POption},(∀ o ∈ l,zBC c f o.pas)→pilL c f (l.map (·.pas))=pilD c l
 | [],_=>rfl
 | o :: l,h=>by
  obtain ⟨h1,h2,h3⟩:=h o (List.mem_cons_self ..)
  have ih:=zCd (l:=l) fun y hy=>h y (List.mem_cons_of_mem _ hy)
  rw [pilL,pilD] at ih ⊢
  rw [List.map_cons,List.filter_cons_of_pos (by simpa using h1),List.filter_cons_of_pos (by simpa using h1),List.map_cons,List.map_cons,ih,zxD h1 h2 h3]
theorem zCe {c:zFb} {f:List DShip} {l:List POption} (h:∀ o ∈ l,zBC c f o.pas):zBp c f (l.map (·.pas)):=fun x hx _=>by
 obtain ⟨o,ho,rfl⟩:=List.mem_map.1 hx
 obtain ⟨h1,h2,h3⟩:=h o ho
 rw [zxD h1 h2 h3]
theorem zCf {c:zFb} {l:List POption}:(pilD c l).length≤l.length:=by
 rw [pilD,List.length_map];exact List.length_filter_le _ _
theorem zCg {c:zFb} {f:List DShip} {l:List POption} (h:∀ o ∈ l,zBC c f o.pas) (h12:l.length≤12):zz2 (pilD c l)=true:=by
 rw [← zCd h]
 refine zBt (zCe h) ?_
 rw [zCd h]
 exact Nat.le_trans zCf h12
theorem zKY {x:zFc} {l:List POption} (hw:zvn x.crew=true) (h:∀ o ∈ l,zBC x.chart x.fleet o.pas) (h12:l.length≤12):zKk x.crew x.chart x.fleet (l.map (·.pas))=zKX x l:=by
 obtain ⟨hr,ht⟩:=zBn hw
 have hfl:(l.map (·.pas)).flatten=l.flatMap (·.pas):=(List.flatMap_def ..).symm
 have hd:=zCg h h12
 have hc2:zA5 x.crew.rest x.crew.moves (pilD x.chart l)=true:=by rw [zA5,hd,hr,ht];rfl
 rw [zKk,zKX,hfl,zKh]
 cases hq:zJ4 x.chart x.fleet (l.flatMap (·.pas)) with
 | none=>simp [In]
 | some d =>
  have hc1:zA5 0 x.crew.moves d=true:=by rw [zA5,zKg hq,ht];rfl
  simp only
  rw [if_pos hw,zKU hc1,zKU hc2,zBq,if_pos ⟨hw,zCe h,by rw [zCd h];exact Nat.le_trans zCf h12⟩,zCd h]
theorem zKZ {x:zFc} (hw:zvn x.crew=true):zKX x []=true:=by
 have h:zJ4 x.chart x.fleet []=some []:=by
  rw [zJ4,if_pos ⟨fun i hi=>absurd hi (Nat.not_lt_zero _),Nat.zero_le _⟩];rfl
 rw [zvn] at hw
 simp only [In,jJ,decide_eq_true_eq] at hw
 rw [zKX,show ([]:List POption).flatMap (·.pas)=[] from rfl,h]
 simp only [zKT,jJ,jQ,decide_eq_true_eq]
 exact ⟨.inl (by simp only [List.length_nil];omega),.inl (by show (([]:List DDuty).length:Int)≤_;simp only [List.length_nil];omega)⟩
theorem zK0 {x:zFc} {l l2:List POption} (hw:zvn x.crew=true) (hg:∀ o ∈ l ++ l2,zBC x.chart x.fleet o.pas) (h12:(l ++ l2).length≤12) (h:zKX x (l ++ l2)=true):zKX x l=true:=by
 obtain ⟨hr,ht⟩:=zBn hw
 have hd:=zCg hg h12
 rw [zKX] at h ⊢
 cases hq:zJ4 x.chart x.fleet ((l ++ l2).flatMap (·.pas)) with
 | none=>rw [hq] at h;cases h
 | some d =>
  rw [hq] at h
  have hdd:=zKg hq
  simp only [jJ] at h
  rw [zJ4] at hq
  split at hq
  ·rename_i hc
   obtain ⟨hc1,hc2⟩:=hc
   obtain rfl:=Option.some.inj hq
   rw [List.flatMap_append] at hc1 hc2 hdd h
   rw [show tugL x.chart x.fleet (l.flatMap (·.pas) ++ l2.flatMap (·.pas))=tugL x.chart x.fleet (l.flatMap (·.pas)) ++ tugL x.chart x.fleet (l2.flatMap (·.pas)) from List.flatMap_append] at hc2 hdd h
   have hs:zJ4 x.chart x.fleet (l.flatMap (·.pas))=some (tugL x.chart x.fleet (l.flatMap (·.pas))):=by
    have hall:∀ i,i < (l.flatMap (·.pas)).length→pOk x.chart x.fleet (l.flatMap (·.pas)) i=true:=fun i hi=>by
     have:=hc1 i (by rw [List.length_append];omega)
     rw [pOk,List.getD_eq_getElem?_getD,List.getElem?_append_left hi] at this
     rw [pOk,List.getD_eq_getElem?_getD];exact this
    rw [zJ4,if_pos ⟨hall,by rw [List.length_append] at hc2;omega⟩]
   rw [hs]
   simp only [jJ]
   have hpd:pilD x.chart (l ++ l2)=pilD x.chart l ++ pilD x.chart l2:=by rw [pilD,List.filter_append,List.map_append];rfl
   rw [hpd] at hd h
   exact ⟨zKW (by decide) ht hdd h.1,zKW hr ht hd h.2⟩
  ·cases hq
theorem zK1 {x:zFc} {l:List POption} (hw:zvn x.crew=true) (hg:∀ o ∈ l,zBC x.chart x.fleet o.pas) (h12:l.length≤12) (h:zKX x l=true) (k:Nat):zKX x (l.take k)=true:=by
 rw [← List.take_append_drop k l] at hg h h12
 exact zK0 hw hg h12 h
theorem zK2 (p q:DPassage):Ov p q=Ov q p:=by rw [Ov,Ov,Int.max_comm,Int.min_comm]
theorem zK3 (a b g:Int):zJM a b g=zJM b a g:=by rw [zJM,zJM,Int.max_comm,Int.min_comm]
theorem zK4 (c:zFb) (r:DRegime) (p q:DPassage):zJN c r p q=zJN c r q p:=by
 by_cases hc:p.seg=q.seg∧0≤p.seg∧p.seg < c.segments.length
 ·have hc2:q.seg=p.seg∧0≤q.seg∧q.seg < c.segments.length:=⟨hc.1.symm,by rw [← hc.1];exact hc.2⟩
  rw [zJN,zJN,if_neg (not_not_intro hc),if_neg (not_not_intro hc2),zK2 q p,zK3 q.start,zK3 q.fin,hc.1]
  by_cases hs:p.ship=q.ship
  ·rw [if_pos hs,if_pos hs.symm]
  ·rw [if_neg hs,if_neg (Ne.symm hs)]
   by_cases ht:p.toward=q.toward
   ·rw [if_neg (not_not_intro ht),if_neg (not_not_intro ht.symm)]
    split
    ·rfl
    ·by_cases h4:(p.start < q.start∧q.fin < p.fin)∨(q.start < p.start∧p.fin < q.fin)
     ·rw [if_pos h4,if_pos h4.symm]
     ·rw [if_neg h4,if_neg fun h=>h4 h.symm]
   ·rw [if_pos ht,if_pos (Ne.symm ht)]
 ·have hc2:¬ (q.seg=p.seg∧0≤q.seg∧q.seg < c.segments.length):=fun h=>hc ⟨h.1.symm,by rw [← h.1];exact h.2⟩
  rw [zJN,zJN,if_pos hc,if_pos hc2]
theorem zK5 (c:zFb) (r:DRegime) (a b:List DPassage):zJO c r a b=zJO c r b a:=by
 rw [Bool.eq_iff_iff]
 simp only [zJO,List.any_eq_true,decide_eq_true_eq]
 constructor
 ·rintro ⟨p,hp,q,hq,h⟩;exact ⟨q,hq,p,hp,by rw [zK4];exact h⟩
 ·rintro ⟨p,hp,q,hq,h⟩;exact ⟨q,hq,p,hp,by rw [zK4];exact h⟩
def zK6 (x:zFc) (l:List POption) (o:POption):Bool:=!(l.any fun p=>zJO x.chart x.regime p.pas o.pas)
def zK7 (x:zFc) (l:List POption) (o:POption):Bool:=zK6 x l o && zKX x (l ++ [o])
def ipAt (x:zFc) (calls:List DCall) (l:List POption) (i:Nat):Bool:=zyW x (calls.getD i dC) (l.getD i zJX) && zK7 x (l.take i) (l.getD i zJX)
def zK8 (x:zFc) (calls:List DCall) (l:List POption):Bool:=zJJ x calls && decide (l.length=calls.length) && decide (∀ i,i < calls.length→ipAt x calls l i=true)
def zK9 (x:zFc) (l:List POption) (i:Nat):Bool:=!((l.take i).any fun p=>zJO x.chart x.regime (l.getD i zJX).pas p.pas)
noncomputable def zLa (x:zFc) (l:List POption):Bool:=decide (∀ i,i < l.length→zK9 x l i=true) && zKk x.crew x.chart x.fleet (zKE l)
noncomputable def zLb (x:zFc) (calls:List DCall) (l:List POption):Bool:=zJJ x calls && decide (l.length=calls.length) && decide (∀ i,i < l.length→zyW x (calls.getD i dC) (l.getD i zJX)=true) && zLa x l
theorem zLc {x:zFc} {l:List POption} {i:Nat}:zK9 x l i=zK6 x (l.take i) (l.getD i zJX):=by
 rw [zK9,zK6]
 congr 2
 funext p
 exact zK5 ..
theorem zLd {l:List POption} {i:Nat} (hi:i < l.length):l.take i ++ [l.getD i zJX]=l.take (i+1):=by
 rw [List.take_succ_eq_append_getElem hi,List.getD_eq_getElem?_getD,List.getElem?_eq_getElem hi];rfl
theorem zLe {x:zFc} {calls:List DCall} (h:zJJ x calls=true):zvn x.crew=true:=by
 rw [zJJ,zvo,jJ,jJ,jJ] at h
 exact h.1.1.2
theorem zLf (x:DHarbour) (calls:List DCall) (l:List POption):zLb (Con.con x) calls l=zK8 (Con.con x) calls l:=by
 rw [zLb,zK8]
 cases hc:zJJ (Con.con x) calls with
 | false=>rfl
 | true =>
  by_cases hl:l.length=calls.length
  ·have hw:=zLe hc
   have h6:=zKv hc
   have hf:(Con.con x).fleet=x.fleet.l:=zu4 _
   rw [Bool.eq_iff_iff,zLa]
   simp only [jJ,decide_eq_true_eq,Bool.true_and,hl,true_and]
   have good:(∀ i,i < calls.length→zyW (Con.con x) (calls.getD i dC) (l.getD i zJX)=true)→∀ o ∈ l,zBC (Con.con x).chart (Con.con x).fleet o.pas:=fun h o ho=>by
    obtain ⟨i,hi,rfl⟩:=List.getElem_of_mem ho
    have:=h i (by omega)
    rw [show l.getD i zJX=l[i] by rw [List.getD_eq_getElem?_getD,List.getElem?_eq_getElem hi];rfl] at this
    rw [hf];exact zKr this
   constructor
   ·rintro ⟨h1,h2,h3⟩ i hi
    have hg:=good h1
    rw [show zKE l=l.map (·.pas) from rfl,zKY hw hg (by omega)] at h3
    rw [ipAt,zK7,jJ,jJ,← zLc,zLd (by omega)]
    exact ⟨h1 i hi,h2 i hi,zK1 hw hg (by omega) h3 _⟩
   ·intro h
    have h1:∀ i,i < calls.length→zyW (Con.con x) (calls.getD i dC) (l.getD i zJX)=true:=fun i hi=>by
     have:=h i hi
     rw [ipAt,jJ] at this;exact this.1
    have h2:∀ i,i < calls.length→zK9 (Con.con x) l i=true∧zKX (Con.con x) (l.take (i+1))=true:=fun i hi=>by
     have:=h i hi
     rw [ipAt,zK7,jJ,jJ,← zLc,zLd (by omega)] at this;exact this.2
    refine ⟨h1,fun i hi=>(h2 i hi).1,?_⟩
    rw [show zKE l=l.map (·.pas) from rfl,zKY hw (good h1) (by omega)]
    rcases Nat.eq_zero_or_pos l.length with h0|h0
    ·rw [List.eq_nil_of_length_eq_zero h0];exact zKZ hw
    ·have:=(h2 (l.length - 1) (by omega)).2
     rwa [show l.length - 1+1=l.length by omega,List.take_length] at this
  ·rw [show decide (l.length=calls.length)=false from decide_eq_false hl];rfl
theorem zCk {x:DHarbour} {a:DCall} {y:POption} (hy:y ∈ zy1 (Con.con x) a):0≤y.start∧y.start≤2880∧a.ready≤y.start∧y.start≤a.due∧(y.start - a.ready) % 15=0:=by
 cases hok:zvB (Con.con x) a with
 | false=>rw [zy5 hok] at hy;cases hy
 | true =>
  cases hb:zyd (Con.con x.chart) a.src a.dst with
  | none=>rw [zB6 (show zyd (Con.con x).chart a.src a.dst=none from hb)] at hy;cases hy
  | some r =>
   obtain ⟨_,_,_,_,_,_,_,_,_,_,hr0,hr1,hr2,hr3⟩:=zyE hok
   obtain ⟨h1,h2,h3,h4,_⟩:=(zB7 hok hb).1 y hy
   omega
def zCq (f:zFa) (c:zFb) (k:Int) (s:DShip) (m:Int):Bool:=zwb (zwO f c k s) m
def zCr (f:zFa) (c:zFb) (fl:List DShip) (p:DPassage):Bool:=zvI c fl p && zCq f c p.seg (fl.getD p.ship.toNat dH) p.start
theorem Voy.sure {x:DHarbour} {a:DCall} {r:List Int} {m:Int} {pl l:List Int} (V:Voy x a r m pl l) {i:Nat} (hi:i < r.length):zCq (Con.con x.forecast) (Con.con x.chart) (r.getD i 0) (zyD (Con.con x) a) (l.getD i 0)=true:=by
 have h:=V.has i hi
 rw [uL,zym,List.getD_eq_getElem?_getD,List.getElem?_map,List.getElem?_range hi] at h
 exact h
theorem zCv {x:DHarbour} {a:DCall} (hok:zvB (Con.con x) a=true) {o:POption} (ho:o ∈ zy1 (Con.con x) a) {p:DPassage} (hp:p ∈ o.pas) :
  zvI (Con.con x.chart) x.fleet.l p=true∧zCr (Con.con x.forecast) (Con.con x.chart) x.fleet.l p=true:=by
 have hg:=zBK o ho
 cases hb:zyd (Con.con x.chart) a.src a.dst with
 | none=>rw [zB6 (show zyd (Con.con x).chart a.src a.dst=none from hb)] at ho;cases ho
 | some r =>
  obtain ⟨_,_,⟨hsi,hsh,_⟩,_,_,_,_,_,_,_,hr0,hr1,hr2,hr3⟩:=zyE hok
  obtain ⟨h1,h2,h3,h4,_⟩:=(zB7 hok hb).1 o ho
  have hcv:=zy4 hok hb
  obtain ⟨pl,l,V,hle⟩:=zB2 hok hcv (m:=o.start) (by omega) (by rw [h1])
  have e:=V.opt
  rw [h1] at e
  have ep:o.pas=pasL (Con.con x.chart) a.ship (zyD (Con.con x) a) pl r l r.length:=congrArg (fun z:POption × Bool=>z.1.pas) e
  have hpk:zvI (Con.con x.chart) x.fleet.l p=true:=by
   obtain ⟨i,hi,rfl⟩:=List.getElem_of_mem hp
   have:=hg.2.2 i hi
   rw [pOk,qget hi] at this
   exact this
  refine ⟨hpk,?_⟩
  rw [ep,pasL] at hp
  obtain ⟨i,hi,rfl⟩:=List.mem_map.1 hp
  have hi:=List.mem_range.1 hi
  rw [zCr,hpk,Bool.true_and]
  have h5:=V.sure hi
  show zCq _ _ (r.getD i 0) (x.fleet.l.getD a.ship.toNat dH) (l.getD i 0)=true
  rw [hget hsi,← hsh]
  exact h5
def zCy (p:DPart):Prop:=0≤p.amp∧p.amp < 300∧p.period ∈ ([744,720,1440,372,240]:List Int)∧0≤p.phase∧p.phase < p.period
def zCz (t:DTide):Prop:=(0≤t.mean∧t.mean < 300)∧(1≤t.parts.l.length∧t.parts.l.length≤2)∧∀ p ∈ t.parts.l,zCy p
def GSur (l:List DSurge):Prop:=(1≤l.length∧l.length≤3)∧(l.getD 0 dS).src=0∧∀ i,i < l.length→zuX l i=true
def nSea:ByteArray:=⟨#[115,101,97]⟩
def nBar:ByteArray:=⟨#[98,97,114]⟩
def zCA:ByteArray:=⟨#[114,111,97,100]⟩
def zCB:ByteArray:=⟨#[113,117,97,121]⟩
def zCC:ByteArray:=⟨#[100,111,99,107]⟩
def ptsG (w:Bool) (o2:Option Int):List DPoint:=[⟨nSea,true⟩,⟨nBar,false⟩,⟨zCA,w⟩,⟨zCB,true⟩] ++ (match o2 with|none=>[]|some _=>[⟨zCC,true⟩])
def zCD (d1 m1 d2 m2 d3 m3:Int) (mt:Bool) (o1:Option (Int × Int)) (o2:Option Int):List DSegment :=
 [⟨0,1,900+d1,10+m1,false⟩,⟨1,2,800+d2,10+m2,mt⟩,⟨2,3,900+d3,5+m3,false⟩] ++ (match o1 with|none=>[]|some q=>[⟨3,1,700+q.1,20+q.2,true⟩]) ++ (match o2 with|none=>[]|some d=>[⟨2,4,800+d,15,false⟩])
def zCE (c:DChart):Prop:=∃ (w mt:Bool) (d1 m1 d2 m2 d3 m3:Int) (o1:Option (Int × Int)) (o2:Option Int),
 ((0≤d1∧d1 < 300)∧(0≤m1∧m1 < 40)∧(0≤d2∧d2 < 300)∧(0≤m2∧m2 < 30)∧(0≤d3∧d3 < 200)∧(0≤m3∧m3 < 20)) ∧
 (∀ q,o1=some q→(0≤q.1∧q.1 < 300)∧(0≤q.2∧q.2 < 30))∧(∀ d,o2=some d→0≤d∧d < 300)∧c.points.l=ptsG w o2∧c.segments.l=zCD d1 m1 d2 m2 d3 m3 mt o1 o2
def zCF (i:Nat):ByteArray:=⟨#[115,UInt8.ofNat (48+i)]⟩
def zCG (k:Int) (i:Nat) (s:DShip):Prop:=s.name=zCF i∧(40≤s.length∧s.length < 240)∧(600≤s.draught∧s.draught < 1100)∧(0≤s.line∧s.line < 4)∧(0≤s.tugs∧s.tugs < k)
def zCH (k:Int) (l:List DShip):Prop:=(1≤l.length∧l.length≤3)∧∀ i,i < l.length→zCG k i (l.getD i dH)
def zCI (w:DCrew):Prop:=(1≤w.tugs∧w.tugs < 5)∧(1≤w.pilots∧w.pilots < 4)∧(0≤w.rest∧w.rest < 60)∧w.moves.l.length=64∧∀ y ∈ w.moves.l,0≤y∧y≤20
structure zCJ (x:DHarbour):Prop where
 mean:150≤x.forecast.tide.mean∧x.forecast.tide.mean < 450
 parts:(1≤x.forecast.tide.parts.l.length∧x.forecast.tide.parts.l.length≤2)∧∀ p ∈ x.forecast.tide.parts.l,zCy p
 sur:GSur x.forecast.surges.l
 chart:zCE x.chart
 fleet:zCH 2 x.fleet.l
 gap:0≤x.regime.gap∧x.regime.gap < 30
 crew:zCI x.crew
def zCK (x:DHarbour) (a:DCall):Prop:=(0≤a.ship∧a.ship < x.fleet.l.length)∧((a.src=0∧a.dst=3)∨(a.src=3∧a.dst=0))∧(0≤a.ready∧a.ready≤435)∧(a.ready+60≤a.due∧a.due < a.ready+460)
theorem zCL {p:DPart} (H:zCy p):zuI p=true:=by
 obtain ⟨h1,h2,h3,h4,h5⟩:=H
 simp only [List.mem_cons,List.not_mem_nil,or_false] at h3
 rw [zuI,zuG]
 simp only [In,jJ,decide_eq_true_eq,beq_iff_eq]
 rcases h3 with h3|h3|h3|h3|h3 <;> rw [h3] at h5 ⊢ <;> exact ⟨⟨⟨h1,by omega⟩,⟨by decide,by decide⟩,by decide⟩,h4,by omega⟩
theorem zCM {c:DChart} (H:zCE c):4≤c.points.l.length:=by
 obtain ⟨w,mt,d1,m1,d2,m2,d3,m3,o1,o2,_,_,_,h1,_⟩:=H
 rw [h1]
 unfold ptsG
 rw [List.length_append]
 show 4≤4+_
 omega
theorem zCN (w:Bool) (o2:Option Int):(ptsG w o2).length≤8∧∀ i,i < (ptsG w o2).length→ptOk (ptsG w o2) i=true:=by
 cases o2 with
 | none =>
  refine ⟨Nat.le_of_ble_eq_true rfl,fun i hi=>?_⟩
  match i,hi with
  | 0,_=>rfl
  | 1,_=>rfl
  | 2,_=>rfl
  | 3,_=>rfl
 | some d =>
  refine ⟨Nat.le_of_ble_eq_true rfl,fun i hi=>?_⟩
  match i,hi with
  | 0,_=>rfl
  | 1,_=>rfl
  | 2,_=>rfl
  | 3,_=>rfl
  | 4,_=>rfl
theorem zCO {n:Nat} {l:List DSegment} {i:Nat} {s:DSegment} (e:l.getD i dG=s) (h1:0≤s.a∧s.a < n∧0≤s.b∧s.b < n∧s.a ≠ s.b∧0≤s.depth∧s.depth≤3000∧1≤s.minutes∧s.minutes≤240) (h2:∀ j,j < i→zu5 (l.getD j dG) s.a s.b=false):zu9 n l i=true:=by
 rw [zu9,zu7,zu8,e,jJ,decide_eq_true_eq,decide_eq_true_eq]
 exact ⟨h1,h2⟩
theorem zCP {c:DChart} (H:zCE c):zva (Con.con c)=true:=by
 obtain ⟨w,mt,d1,m1,d2,m2,d3,m3,o1,o2,⟨b1,b2,b3,b4,b5,b6⟩,b7,b8,h1,h2⟩:=H
 obtain ⟨p1,p2⟩:=zCN w o2
 rw [zva,show (Con.con c).points=c.points.l from zu2 _,show (Con.con c).segments=c.segments.l from zu3 _,h1,h2]
 simp only [jJ,decide_eq_true_eq]
 have hn:4≤(ptsG w o2).length:=by
  unfold ptsG
  rw [List.length_append]
  show 4≤4+_
  omega
 refine ⟨⟨⟨p1,?_⟩,p2⟩,fun i hi=>?_⟩
 ·cases o1 <;> cases o2 <;> exact Nat.le_of_ble_eq_true rfl
 ·cases o1 with
  | none =>
   cases o2 with
   | none =>
    match i,hi with
    | 0,_=>exact zCO rfl (by show (0:Int)≤0∧(0:Int) < _∧(0:Int)≤1∧(1:Int) < _∧(0:Int) ≠ 1∧0≤900+d1∧900+d1≤3000∧1≤10+m1∧10+m1≤240;omega) fun j hj=>absurd hj (Nat.not_lt_zero j)
    | 1,_=>exact zCO rfl (by show (0:Int)≤1∧(1:Int) < _∧(0:Int)≤2∧(2:Int) < _∧(1:Int) ≠ 2∧0≤800+d2∧800+d2≤3000∧1≤10+m2∧10+m2≤240;omega) fun j hj=>match j,hj with|0,_=>rfl
    | 2,_=>exact zCO rfl (by show (0:Int)≤2∧(2:Int) < _∧(0:Int)≤3∧(3:Int) < _∧(2:Int) ≠ 3∧0≤900+d3∧900+d3≤3000∧1≤5+m3∧5+m3≤240;omega) fun j hj=>match j,hj with|0,_=>rfl|1,_=>rfl
   | some d =>
    have hd:=b8 d rfl
    have hn5:((ptsG w (some d)).length:Int)=5:=rfl
    match i,hi with
    | 0,_=>exact zCO rfl (by show (0:Int)≤0∧(0:Int) < _∧(0:Int)≤1∧(1:Int) < _∧(0:Int) ≠ 1∧0≤900+d1∧900+d1≤3000∧1≤10+m1∧10+m1≤240;omega) fun j hj=>absurd hj (Nat.not_lt_zero j)
    | 1,_=>exact zCO rfl (by show (0:Int)≤1∧(1:Int) < _∧(0:Int)≤2∧(2:Int) < _∧(1:Int) ≠ 2∧0≤800+d2∧800+d2≤3000∧1≤10+m2∧10+m2≤240;omega) fun j hj=>match j,hj with|0,_=>rfl
    | 2,_=>exact zCO rfl (by show (0:Int)≤2∧(2:Int) < _∧(0:Int)≤3∧(3:Int) < _∧(2:Int) ≠ 3∧0≤900+d3∧900+d3≤3000∧1≤5+m3∧5+m3≤240;omega) fun j hj=>match j,hj with|0,_=>rfl|1,_=>rfl
    | 3,_=>exact zCO rfl (by show (0:Int)≤2∧(2:Int) < _∧(0:Int)≤4∧(4:Int) < _∧(2:Int) ≠ 4∧0≤800+d∧800+d≤3000∧(1:Int)≤15∧(15:Int)≤240;omega) fun j hj=>match j,hj with|0,_=>rfl|1,_=>rfl|2,_=>rfl
  | some q =>
   have hq:=b7 q rfl
   cases o2 with
   | none =>
    match i,hi with
    | 0,_=>exact zCO rfl (by show (0:Int)≤0∧(0:Int) < _∧(0:Int)≤1∧(1:Int) < _∧(0:Int) ≠ 1∧0≤900+d1∧900+d1≤3000∧1≤10+m1∧10+m1≤240;omega) fun j hj=>absurd hj (Nat.not_lt_zero j)
    | 1,_=>exact zCO rfl (by show (0:Int)≤1∧(1:Int) < _∧(0:Int)≤2∧(2:Int) < _∧(1:Int) ≠ 2∧0≤800+d2∧800+d2≤3000∧1≤10+m2∧10+m2≤240;omega) fun j hj=>match j,hj with|0,_=>rfl
    | 2,_=>exact zCO rfl (by show (0:Int)≤2∧(2:Int) < _∧(0:Int)≤3∧(3:Int) < _∧(2:Int) ≠ 3∧0≤900+d3∧900+d3≤3000∧1≤5+m3∧5+m3≤240;omega) fun j hj=>match j,hj with|0,_=>rfl|1,_=>rfl
    | 3,_=>exact zCO rfl (by show (0:Int)≤3∧(3:Int) < _∧(0:Int)≤1∧(1:Int) < _∧(3:Int) ≠ 1∧0≤700+q.1∧700+q.1≤3000∧1≤20+q.2∧20+q.2≤240;omega) fun j hj=>match j,hj with|0,_=>rfl|1,_=>rfl|2,_=>rfl
   | some d =>
    have hd:=b8 d rfl
    have hn5:((ptsG w (some d)).length:Int)=5:=rfl
    match i,hi with
    | 0,_=>exact zCO rfl (by show (0:Int)≤0∧(0:Int) < _∧(0:Int)≤1∧(1:Int) < _∧(0:Int) ≠ 1∧0≤900+d1∧900+d1≤3000∧1≤10+m1∧10+m1≤240;omega) fun j hj=>absurd hj (Nat.not_lt_zero j)
    | 1,_=>exact zCO rfl (by show (0:Int)≤1∧(1:Int) < _∧(0:Int)≤2∧(2:Int) < _∧(1:Int) ≠ 2∧0≤800+d2∧800+d2≤3000∧1≤10+m2∧10+m2≤240;omega) fun j hj=>match j,hj with|0,_=>rfl
    | 2,_=>exact zCO rfl (by show (0:Int)≤2∧(2:Int) < _∧(0:Int)≤3∧(3:Int) < _∧(2:Int) ≠ 3∧0≤900+d3∧900+d3≤3000∧1≤5+m3∧5+m3≤240;omega) fun j hj=>match j,hj with|0,_=>rfl|1,_=>rfl
    | 3,_=>exact zCO rfl (by show (0:Int)≤3∧(3:Int) < _∧(0:Int)≤1∧(1:Int) < _∧(3:Int) ≠ 1∧0≤700+q.1∧700+q.1≤3000∧1≤20+q.2∧20+q.2≤240;omega) fun j hj=>match j,hj with|0,_=>rfl|1,_=>rfl|2,_=>rfl
    | 4,_=>exact zCO rfl (by show (0:Int)≤2∧(2:Int) < _∧(0:Int)≤4∧(4:Int) < _∧(2:Int) ≠ 4∧0≤800+d∧800+d≤3000∧(1:Int)≤15∧(15:Int)≤240;omega) fun j hj=>match j,hj with|0,_=>rfl|1,_=>rfl|2,_=>rfl|3,_=>rfl
theorem zCQ:∀ i,i < 3→zuN (zCF i)=true∧∀ j,j < 3→(zCF i=zCF j ↔ i=j):=by
 intro i hi
 match i,hi with
 | 0,_=>exact ⟨rfl,fun j hj=>match j,hj with|0,_=>by decide|1,_=>by decide|2,_=>by decide⟩
 | 1,_=>exact ⟨rfl,fun j hj=>match j,hj with|0,_=>by decide|1,_=>by decide|2,_=>by decide⟩
 | 2,_=>exact ⟨rfl,fun j hj=>match j,hj with|0,_=>by decide|1,_=>by decide|2,_=>by decide⟩
theorem zCR {k:Int} (hk:k≤4) {l:List DShip} (H:zCH k l):zvk l=true:=by
 obtain ⟨⟨h1,h2⟩,h3⟩:=H
 rw [zvk,jJ,decide_eq_true_eq,decide_eq_true_eq]
 refine ⟨by omega,fun i hi=>?_⟩
 obtain ⟨s1,s2,s3,s4,s5⟩:=h3 i hi
 rw [shOk,jJ,decide_eq_true_eq,zvj,s1]
 refine ⟨?_,?_⟩
 ·rw [(zCQ i (by omega)).1]
  simp only [Bool.true_and,In,jJ,decide_eq_true_eq]
  omega
 ·rw [zvi,zuP]
  have hf:l.findIdx? (fun p=>decide (p.name=zCF i))=some i:=by
   rw [List.findIdx?_eq_some_iff_getElem]
   refine ⟨hi,?_,fun j hj=>?_⟩
   ·have e:l.getD i dH=l[i]:=by rw [List.getD_eq_getElem?_getD,List.getElem?_eq_getElem hi];rfl
    rw [e] at s1
    exact decide_eq_true s1
   ·have hjl:j < l.length:=by omega
    have e:l.getD j dH=l[j]:=by rw [List.getD_eq_getElem?_getD,List.getElem?_eq_getElem hjl];rfl
    have t1:=(h3 j hjl).1
    rw [e] at t1
    rw [decide_eq_true_eq,t1]
    intro h9
    have:=((zCQ j (by omega)).2 i (by omega)).1 h9
    omega
  rw [hf]
theorem zCS {x:DHarbour} (H:zCJ x):zvo (Con.con x)=true:=by
 obtain ⟨h1,⟨h2,h3⟩,⟨⟨h4,h5⟩,h6,h7⟩,h8,h9,h10,⟨c1,c2,c3,c4,c5⟩⟩:=H
 have e1:zuS (Con.con x.forecast.tide)=true:=by
  rw [zuS,show (Con.con x.forecast.tide).parts=x.forecast.tide.parts.l from List.map_id _,show (Con.con x.forecast.tide).mean=x.forecast.tide.mean from rfl]
  simp only [In,jJ,decide_eq_true_eq,List.all_eq_true]
  exact ⟨⟨by omega,by omega⟩,fun p hp=>zCL (h3 p hp)⟩
 have e2:zuY (Con.con x.forecast)=true:=by
  rw [zuY,show (Con.con x.forecast).tide=Con.con x.forecast.tide from rfl,e1,show (Con.con x.forecast).surges=x.forecast.surges.l from List.map_id _]
  simp only [In,Bool.true_and,jJ,decide_eq_true_eq]
  exact ⟨⟨by omega,h6⟩,h7⟩
 have e3:zvn (Con.con x.crew)=true:=by
  rw [zvn,zvm,show (Con.con x.crew).moves=x.crew.moves.l from List.map_id _]
  show (In x.crew.tugs 0 12 && In x.crew.pilots 0 12 && (In x.crew.rest 0 2880 && _))=true
  simp only [In,jJ,decide_eq_true_eq,List.all_eq_true]
  exact ⟨⟨by omega,by omega⟩,by omega,c4,fun y hy=>by have:=c5 y hy;omega⟩
 rw [zvo,show (Con.con x).forecast=Con.con x.forecast from rfl,e2,show (Con.con x).chart=Con.con x.chart from rfl,zCP h8,show (Con.con x).fleet=x.fleet.l from List.map_id _,zCR (by decide) h9,show (Con.con x).crew=Con.con x.crew from rfl,e3]
 show (true && zvl x.regime && true)=true
 rw [zvl]
 simp only [In,Bool.true_and,Bool.and_true,jJ,decide_eq_true_eq]
 omega
theorem zCT {x:DHarbour} {a:DCall} (H:zCJ x) (A:zCK x a):zvA (Con.con x) a=true:=by
 have hp:=zCM H.chart
 obtain ⟨a1,a2,a3,a4⟩:=A
 rw [zvA,show (Con.con x).fleet=x.fleet.l from List.map_id _,show (Con.con x).chart.points=x.chart.points.l from zu2 _,decide_eq_true_eq]
 omega
def zLg (x:DHarbour) (l:List DCall):Prop:=(1≤l.length∧l.length≤3)∧(∀ a ∈ l,zCK x a)∧l.Pairwise fun a b=>a.ship < b.ship
theorem zLh {x:DHarbour} {l:List DCall} (H:zCJ x) (A:zLg x l):zJJ (Con.con x) l=true:=by
 obtain ⟨⟨h1,h2⟩,h3,h4⟩:=A
 rw [zJJ,zCS H,Bool.true_and,jJ,decide_eq_true_eq,decide_eq_true_eq]
 refine ⟨by omega,fun i hi=>?_⟩
 have e:∀ j (hj:j < l.length),l.getD j dC=l[j]:=fun j hj=>by rw [List.getD_eq_getElem?_getD,List.getElem?_eq_getElem hj];rfl
 rw [clOk,jJ,zJI,decide_eq_true_eq,e i hi]
 refine ⟨zCT H (h3 _ (List.getElem_mem hi)),fun j hj=>?_⟩
 rw [e j (by omega)]
 have:=List.pairwise_iff_getElem.1 h4 j i (by omega) hi hj
 omega
theorem zC1 {w:List Bool} {m:List Int} {u:List (List DWindow)} {st:Int}:∀ {k:Nat} {l:List Int},slK w m u st k=some l→∀ i,i < k→IntKind.i64.wrap (l.getD i 0+m.getD i 0) < l.getD (i+1) 0→w.getD (i+1) false=true
 | 0,_,_,i,hi,_=>absurd hi (Nat.not_lt_zero i)
 | k+1,l,h,i,hi,hlt=>by
  rw [slK] at h
  obtain ⟨p,hp,h⟩:=Option.bind_eq_some_iff.1 h
  have hl:=zyw hp
  unfold zyr at h
  dsimp only at h
  split at h
  ·cases h
  ·rename_i hc
   rw [not_or,not_and] at hc
   have e:=Option.some.inj h
   rw [← e] at hlt
   rcases Nat.lt_or_ge i k with hik|hik
   ·rw [zBD (by omega),zBD (by omega)] at hlt
    exact zC1 hp i hik hlt
   ·obtain rfl:i=k:=by omega
    rw [zBD (by omega),zBE hl] at hlt
    have:=hc.2 hlt
    rwa [Bool.not_eq_false] at this
theorem Voy.step {x:DHarbour} {a:DCall} {r:List Int} {m:Int} {pl l:List Int} (V:Voy x a r m pl l) {i:Nat} (hi:i+1 < r.length):(zxL (Con.con x.chart) a.ship (zyD (Con.con x) a) pl r l i).fin≤l.getD (i+1) 0:=by
 have:=zBF V.sl i (by omega)
 rw [mL,zzr (by omega)] at this
 exact this
theorem Voy.wait {x:DHarbour} {a:DCall} {r:List Int} {m:Int} {pl l:List Int} (V:Voy x a r m pl l) {i:Nat} (hi:i+1 < r.length) (h:(zxL (Con.con x.chart) a.ship (zyD (Con.con x) a) pl r l i).fin < l.getD (i+1) 0):((Con.con x.chart:zFb).points.getD (pl.getD (i+1) 0).toNat dP).wait=true:=by
 have hw:=zC1 V.sl i (by omega) (by rw [mL,zzr (by omega)];exact h)
 rw [wL,zyl,List.getD_eq_getElem?_getD,List.getElem?_map,List.getElem?_range hi,V.rt] at hw
 exact hw
theorem Voy.fin {x:DHarbour} {a:DCall} {r:List Int} {m:Int} {pl l:List Int} (V:Voy x a r m pl l):zxJ (Con.con x.chart) (zyD (Con.con x) a) r l=(zxL (Con.con x.chart) a.ship (zyD (Con.con x) a) pl r l (r.length - 1)).fin:=by
 have hn:=V.n0
 rw [V.ar]
 have b1:=V.li (r.length - 1) (by omega)
 have b2:=V.mi (r.length - 1) (by omega)
 have b3:=zzr (c:=Con.con x.chart) (s:=zyD (Con.con x) a) (r:=r) (n:=r.length) (i:=r.length - 1) (by omega)
 have b4:zvG (zyD (Con.con x) a) ((Con.con x.chart:zFb).segments.getD (r.getD (r.length - 1) 0).toNat dG)=(mL x a r).getD (r.length - 1) 0:=b3.symm
 show _=IntKind.i64.wrap (l.getD (r.length - 1) 0+zvG (zyD (Con.con x) a) ((Con.con x.chart:zFb).segments.getD (r.getD (r.length - 1) 0).toNat dG))
 rw [b4,zjz (by omega)]
theorem zDO {l:List DWindow} {m:Int}:zwb l m=true ↔ ∃ w ∈ l,w.src≤m∧m≤w.dst:=by
 rw [zwb,List.any_eq_true]
 simp only [In,jJ,decide_eq_true_eq]
def Runs (p:Nat→Bool) (k:Nat) (l:List DWindow):Prop :=
 (∀ w ∈ l,0≤w.src∧w.src≤w.dst∧w.dst < k∧∀ j:Nat,w.src≤j→(j:Int)≤w.dst→p j=true)∧(∀ j:Nat,j < k→p j=true→∃ w ∈ l,w.src≤j∧(j:Int)≤w.dst)∧l.Pairwise fun a b=>a.dst+1 < b.src
theorem zDP {p:Nat→Bool}:∀ {k:Nat},Runs p k (zwp p k)
 | 0=>⟨fun w hw=>(by cases hw),fun j hj=>absurd hj (Nat.not_lt_zero j),List.Pairwise.nil⟩
 | k+1=>by
  obtain ⟨h1,h2,h3⟩:=zDP (p:=p) (k:=k)
  cases hp:p k with
  | false =>
   rw [zww hp]
   refine ⟨fun w hw=>?_,fun j hj hpj=>?_,h3⟩
   ·obtain ⟨a1,a2,a3,a4⟩:=h1 w hw
    exact ⟨a1,a2,by omega,a4⟩
   ·rcases Nat.lt_or_ge j k with h|h
    ·exact h2 j h hpj
    ·obtain rfl:j=k:=by omega
     rw [hp] at hpj;cases hpj
  | true =>
   rw [zwv hp]
   cases hl:zwn (zwp p k) k with
   | false =>
    rw [zwr hl]
    refine ⟨fun w hw=>?_,fun j hj hpj=>?_,?_⟩
    ·rcases List.mem_append.1 hw with hw|hw
     ·obtain ⟨a1,a2,a3,a4⟩:=h1 w hw
      exact ⟨a1,a2,by omega,a4⟩
     ·rw [List.mem_singleton.1 hw]
      refine ⟨jY _,Int.le_refl _,by show (k:Int) < _;omega,fun j h4 h5=>?_⟩
      have h4:(k:Int)≤j:=h4
      have h5:(j:Int)≤k:=h5
      obtain rfl:j=k:=by omega
      exact hp
    ·rcases Nat.lt_or_ge j k with h|h
     ·obtain ⟨w,hw,a⟩:=h2 j h hpj
      exact ⟨w,List.mem_append_left _ hw,a⟩
     ·obtain rfl:j=k:=by omega
      exact ⟨_,List.mem_append_right _ (List.mem_singleton.2 rfl),Int.le_refl _,Int.le_refl _⟩
    ·rw [List.pairwise_append]
     refine ⟨h3,List.pairwise_singleton ..,fun w hw z hz=>?_⟩
     rw [List.mem_singleton.1 hz]
     show w.dst+1 < (k:Int)
     obtain ⟨a1,a2,a3,a4⟩:=h1 w hw
     rcases Int.lt_or_le (w.dst+1) k with h9|h9
     ·exact h9
     ·exfalso
      have hne:zwp p k ≠ []:=fun e=>by rw [e] at hw;cases hw
      have hsp:=(List.dropLast_concat_getLast hne).symm
      have hlast:((zwp p k).getLast hne).dst=(k:Int) - 1:=by
       obtain ⟨b1,b2,b3,b4⟩:=h1 _ (List.getLast_mem hne)
       rw [hsp,List.pairwise_append] at h3
       rw [hsp] at hw
       rcases List.mem_append.1 hw with hw|hw
       ·have:=h3.2.2 w hw _ (List.mem_singleton.2 rfl);omega
       ·rw [List.mem_singleton.1 hw] at h9 a3;omega
      have:zwn (zwp p k) k=true:=by
       rw [hsp]
       unfold zwn
       simp [hlast]
      rw [this] at hl;cases hl
   | true =>
    obtain ⟨l0,w,e,hd,he⟩:=zwq hl
    rw [he]
    rw [e] at h1 h2 h3
    rw [List.pairwise_append] at h3
    refine ⟨fun z hz=>?_,fun j hj hpj=>?_,?_⟩
    ·rcases List.mem_append.1 hz with hz|hz
     ·obtain ⟨a1,a2,a3,a4⟩:=h1 z (List.mem_append_left _ hz)
      exact ⟨a1,a2,by omega,a4⟩
     ·obtain ⟨a1,a2,a3,a4⟩:=h1 w (List.mem_append_right _ (List.mem_singleton.2 rfl))
      rw [List.mem_singleton.1 hz]
      refine ⟨a1,by show w.src≤(k:Int);omega,by show (k:Int) < _;omega,fun j h4 h5=>?_⟩
      have h4:w.src≤j:=h4
      have h5:(j:Int)≤k:=h5
      rcases Nat.lt_or_ge j k with h|h
      ·exact a4 j h4 (by omega)
      ·obtain rfl:j=k:=by omega
       exact hp
    ·rcases Nat.lt_or_ge j k with h|h
     ·obtain ⟨z,hz,a1,a2⟩:=h2 j h hpj
      rcases List.mem_append.1 hz with hz|hz
      ·exact ⟨z,List.mem_append_left _ hz,a1,a2⟩
      ·rw [List.mem_singleton.1 hz] at a1 a2
       exact ⟨_,List.mem_append_right _ (List.mem_singleton.2 rfl),a1,by show (j:Int)≤k;omega⟩
     ·obtain rfl:j=k:=by omega
      obtain ⟨a1,a2,a3,a4⟩:=h1 w (List.mem_append_right _ (List.mem_singleton.2 rfl))
      exact ⟨_,List.mem_append_right _ (List.mem_singleton.2 rfl),by show w.src≤(j:Int);omega,Int.le_refl _⟩
    ·rw [List.pairwise_append]
     refine ⟨h3.1,List.pairwise_singleton ..,fun y hy z hz=>?_⟩
     rw [List.mem_singleton.1 hz]
     exact h3.2.2 y hy w (List.mem_singleton.2 rfl)
theorem zDQ {p:Nat→Bool} {k:Nat} {l:List DWindow} (h:Runs p k l) (hk:k≤2881):zwa l=true:=by
 obtain ⟨h1,h2,h3⟩:=h
 refine decide_eq_true fun i hi=>?_
 rw [zv9,wget hi,decide_eq_true_eq]
 obtain ⟨a1,a2,a3,_⟩:=h1 _ (List.getElem_mem hi)
 refine ⟨⟨a1,a2,by omega⟩,fun h0=>?_⟩
 rw [wget (show i - 1 < l.length by omega)]
 have:=List.pairwise_iff_getElem.1 h3 (i - 1) i (by omega) hi (by omega)
 obtain ⟨b1,b2,b3,_⟩:=h1 _ (List.getElem_mem (show i - 1 < l.length by omega))
 rw [zjz (by omega)]
 exact this
theorem zDR {p:Nat→Bool} {n:Int} (hn:0≤n∧n≤2880) {m:Int}:zwb (zwd (zwp p 2881) n) m=true ↔ 0≤m∧m+n≤2880∧∀ j:Nat,m≤j→(j:Int)≤m+n→p j=true:=by
 have hr:=zDP (p:=p) (k:=2881)
 have hok:=zDQ hr (Nat.le_refl _)
 obtain ⟨h1,h2,h3⟩:=hr
 rw [zDO,zwd,if_pos ⟨hok,hn.1,hn.2⟩]
 constructor
 ·rintro ⟨w,hw,h4,h5⟩
  obtain ⟨z,hz,rfl⟩:=List.mem_map.1 hw
  obtain ⟨hz,hs⟩:=List.mem_filter.1 hz
  obtain ⟨a1,a2,a3,a4⟩:=h1 z hz
  rw [shr,decide_eq_true_eq,zjz (by omega)] at hs
  have h4:z.src≤m:=h4
  have h5:m≤IntKind.i64.wrap (z.dst - n):=h5
  rw [zjz (by omega)] at h5
  exact ⟨by omega,by omega,fun j h6 h7=>a4 j (by omega) (by omega)⟩
 ·rintro ⟨h4,h5,h6⟩
  obtain ⟨m',rfl⟩:∃ m':Nat,m=m':=⟨m.toNat,by omega⟩
  obtain ⟨w,hw,h7,h8⟩:=h2 m' (by omega) (h6 m' (Int.le_refl _) (by omega))
  obtain ⟨a1,a2,a3,a4⟩:=h1 w hw
  have hd:(m':Int)+n≤w.dst:=by
   rcases Int.lt_or_le w.dst ((m':Int)+n) with h9|h9
   ·exfalso
    have hp:=h6 (w.dst.toNat+1) (by omega) (by omega)
    obtain ⟨z,hz,b1,b2⟩:=h2 (w.dst.toNat+1) (by omega) hp
    obtain ⟨i,hi,rfl⟩:=List.getElem_of_mem hw
    obtain ⟨j,hj,rfl⟩:=List.getElem_of_mem hz
    obtain ⟨c1,c2,c3,c4⟩:=h1 _ (List.getElem_mem hj)
    rcases Nat.lt_trichotomy i j with h10|h10|h10
    ·have:=List.pairwise_iff_getElem.1 h3 i j hi hj h10;omega
    ·subst h10;omega
    ·have:=List.pairwise_iff_getElem.1 h3 j i hj hi h10;omega
   ·exact h9
  refine ⟨shw n w,List.mem_map.2 ⟨w,List.mem_filter.2 ⟨hw,?_⟩,rfl⟩,h7,?_⟩
  ·rw [shr,decide_eq_true_eq,zjz (by omega)];omega
  ·show (m':Int)≤IntKind.i64.wrap (w.dst - n)
   rw [zjz (by omega)];omega
def sumC (l:List POption):Int:=(l.map (·.cost)).sum
abbrev BSt:=Option (List Nat × Int)
def upd (st:BSt) (y:List Nat × Int):BSt:=match st with
 | none=>some y
 | some (b,m)=>if y.2 < m then some y else some (b,m)
def cut (st:BSt) (c:Int):Bool:=match st with
 | none=>false
 | some (_,m)=>decide (m≤c)
def srI (x:zFc):List (List POption)→List POption→List Nat→BSt→BSt
 | [],p,ch,st=>if cut st (sumC p)=true then st else some (ch,sumC p)
 | l :: L,p,ch,st=>if cut st (sumC p)=true then st else (List.range l.length).foldl (fun st k=>if zK7 x p (l.getD k zJX)=true then srI x L (p ++ [l.getD k zJX]) (ch ++ [k]) st else st) st
def zLi (x:zFc):List (List POption)→List POption→List Nat→List (List Nat × Int)
 | [],p,ch=>[(ch,sumC p)]
 | l :: L,p,ch=>(List.range l.length).flatMap fun k=>if zK7 x p (l.getD k zJX)=true then zLi x L (p ++ [l.getD k zJX]) (ch ++ [k]) else []
theorem zLj {p:List POption} {o:POption}:sumC (p ++ [o])=sumC p+o.cost:=by
 rw [sumC,List.map_append,List.sum_append];simp [sumC]
theorem zLk {l:List POption} {k:Nat} (hk:k < l.length):l.getD k zJX ∈ l:=by
 rw [List.getD_eq_getElem?_getD,List.getElem?_eq_getElem hk];exact List.getElem_mem hk
theorem zLl {b:List Nat} {m:Int}:∀ {l:List (List Nat × Int)},(∀ y ∈ l,m≤y.2)→l.foldl upd (some (b,m))=some (b,m)
 | [],_=>rfl
 | y :: l,h=>by
  have h1:=h y (List.mem_cons_self ..)
  rw [List.foldl_cons,show upd (some (b,m)) y=some (b,m) by rw [upd,if_neg (by omega)],zLl fun z hz=>h z (List.mem_cons_of_mem _ hz)]
theorem zLm {α β γ:Type} {f:α→List β} {g:γ→β→γ}:∀ {l:List α} {z:γ},(l.flatMap f).foldl g z=l.foldl (fun z a=>(f a).foldl g z) z
 | [],_=>rfl
 | a :: l,z=>by rw [List.flatMap_cons,List.foldl_append,List.foldl_cons,zLm]
theorem zLn {α γ:Type} {f g:γ→α→γ}:∀ {l:List α} {z:γ},(∀ a ∈ l,∀ z,f z a=g z a)→l.foldl f z=l.foldl g z
 | [],_,_=>rfl
 | a :: l,z,h=>by rw [List.foldl_cons,List.foldl_cons,h a (List.mem_cons_self ..),zLn fun b hb=>h b (List.mem_cons_of_mem _ hb)]
theorem zLo {x:zFc}:∀ {L:List (List POption)} {p:List POption} {ch:List Nat},(∀ l ∈ L,∀ o ∈ l,0≤o.cost)→∀ y ∈ zLi x L p ch,sumC p≤y.2
 | [],p,ch,_,y,hy=>by rw [zLi,List.mem_singleton] at hy;rw [hy];exact Int.le_refl _
 | l :: L,p,ch,h,y,hy=>by
  rw [zLi] at hy
  obtain ⟨k,hk,hy⟩:=List.mem_flatMap.1 hy
  have hk:=List.mem_range.1 hk
  split at hy
  ·have:=zLo (fun l hl=>h l (List.mem_cons_of_mem _ hl)) y hy
   have:=h l (List.mem_cons_self ..) _ (zLk hk)
   rw [zLj] at *
   omega
  ·cases hy
theorem zLp {x:zFc}:∀ {L:List (List POption)} {p:List POption} {ch:List Nat} {st:BSt},(∀ l ∈ L,∀ o ∈ l,0≤o.cost)→srI x L p ch st=(zLi x L p ch).foldl upd st
 | [],p,ch,st,_=>by
  rw [srI,zLi,List.foldl_cons,List.foldl_nil]
  cases st with
  | none=>rfl
  | some s =>
   obtain ⟨b,m⟩:=s
   rw [cut,upd]
   by_cases hm:m≤sumC p
   ·rw [if_pos (decide_eq_true hm),if_neg (by simp only;omega)]
   ·rw [if_neg (by rw [decide_eq_true_eq];exact hm),if_pos (by simp only;omega)]
 | l :: L,p,ch,st,h=>by
  have hge:=zLo (x:=x) (p:=p) (ch:=ch) h
  rw [srI]
  split
  ·rename_i hc
   cases st with
   | none=>cases hc
   | some s =>
    obtain ⟨b,m⟩:=s
    have hm:m≤sumC p:=of_decide_eq_true hc
    exact (zLl fun y hy=>Int.le_trans hm (hge y hy)).symm
  ·rw [zLi,zLm]
   refine zLn fun k hk st=>?_
   split
   ·exact zLp fun l hl=>h l (List.mem_cons_of_mem _ hl)
   ·rfl
theorem zLq (l:List Int):∀ k,k≤l.length→∀ i,i < k→l.getD (zuA l k).toNat 0≤l.getD i 0
 | 0,_,i,hi=>absurd hi (Nat.not_lt_zero i)
 | k+1,hk,i,hi=>by
  simp only [zuA]
  rcases zuB l k with ⟨rfl,h⟩|h
  ·rw [h,if_pos (.inl (by decide)),show i=0 by omega];exact Int.le_refl _
  ·split
   ·rename_i hc
    have hc:l.getD k 0 < l.getD (zuA l k).toNat 0:=by omega
    rw [jW]
    rcases Nat.lt_or_ge i k with hik|hik
    ·have:=zLq l k (by omega) i hik;omega
    ·rw [show i=k by omega];exact Int.le_refl _
   ·rename_i hc
    rcases Nat.lt_or_ge i k with hik|hik
    ·exact zLq l k (by omega) i hik
    ·rw [show i=k by omega];omega
theorem zLr {l:List POption} {o:POption} (ho:o ∈ l):flr l≤o.cost:=by
 obtain ⟨i,hi,rfl⟩:=List.getElem_of_mem ho
 have h1:=zza l
 rcases h1 with ⟨h1,_⟩|⟨h1,h2⟩
 ·subst h1;cases hi
 ·rw [flr,if_neg (by omega)]
  have h3:=zLq (l.map (·.cost)) l.length (by rw [List.length_map];exact Nat.le_refl _) i hi
  rw [zuC] at h1 h2 ⊢
  generalize (zuA (l.map (·.cost)) l.length)=q at *
  have hq:q.toNat < l.length:=by omega
  rw [List.getD_eq_getElem?_getD,List.getD_eq_getElem?_getD,List.getElem?_map,List.getElem?_map,List.getElem?_eq_getElem hq,List.getElem?_eq_getElem hi] at h3
  rw [List.getD_eq_getElem?_getD,List.getElem?_eq_getElem hq]
  exact h3
def zLs:List (List POption)→Int
 | []=>0
 | l :: L=>zLs L+flr l
noncomputable def srS (x:zFc):List (List POption)→List POption→List Nat→BSt→BSt
 | [],p,ch,st=>if cut st (sumC p)=true then st else if zKk x.crew x.chart x.fleet (zKE p)=true then some (ch,sumC p) else st
 | l :: L,p,ch,st=>if cut st (sumC p+zLs (l :: L))=true then st else (List.range l.length).foldl (fun st k=>if zK6 x p (l.getD k zJX)=true then srS x L (p ++ [l.getD k zJX]) (ch ++ [k]) st else st) st
noncomputable def zLt (x:zFc):List (List POption)→List POption→List Nat→List (List Nat × Int)
 | [],p,ch=>if zKk x.crew x.chart x.fleet (zKE p)=true then [(ch,sumC p)] else []
 | l :: L,p,ch=>(List.range l.length).flatMap fun k=>if zK6 x p (l.getD k zJX)=true then zLt x L (p ++ [l.getD k zJX]) (ch ++ [k]) else []
theorem zLu {x:zFc}:∀ {L:List (List POption)} {p:List POption} {ch:List Nat},∀ y ∈ zLt x L p ch,sumC p+zLs L≤y.2
 | [],p,ch,y,hy=>by
  rw [zLt] at hy
  split at hy
  ·rw [List.mem_singleton.1 hy,zLs];simp
  ·cases hy
 | l :: L,p,ch,y,hy=>by
  rw [zLt] at hy
  obtain ⟨k,hk,hy⟩:=List.mem_flatMap.1 hy
  have hk:=List.mem_range.1 hk
  split at hy
  ·have h1:=zLu y hy
   have h2:=zLr (zLk hk)
   rw [zLj] at h1
   rw [zLs]
   omega
  ·cases hy
theorem zLv {x:zFc}:∀ {L:List (List POption)} {p:List POption} {ch:List Nat} {st:BSt},srS x L p ch st=(zLt x L p ch).foldl upd st
 | [],p,ch,st=>by
  rw [srS,zLt]
  cases st with
  | none =>
   rw [if_neg (show ¬ cut none (sumC p)=true from Bool.false_ne_true)]
   split <;> rfl
  | some s =>
   obtain ⟨b,m⟩:=s
   rw [cut]
   by_cases hm:m≤sumC p
   ·rw [if_pos (decide_eq_true hm)]
    refine (zLl fun y hy=>?_).symm
    split at hy
    ·rw [List.mem_singleton.1 hy];exact hm
    ·cases hy
   ·rw [if_neg (by rw [decide_eq_true_eq];exact hm)]
    split
    ·rw [List.foldl_cons,List.foldl_nil,upd,if_pos (by simp only;omega)]
    ·rfl
 | l :: L,p,ch,st=>by
  have hge:=zLu (x:=x) (L:=l :: L) (p:=p) (ch:=ch)
  rw [srS]
  split
  ·rename_i hc
   cases st with
   | none=>cases hc
   | some s =>
    obtain ⟨b,m⟩:=s
    have hm:m≤sumC p+zLs (l :: L):=of_decide_eq_true hc
    exact (zLl fun y hy=>Int.le_trans hm (hge y hy)).symm
  ·rw [zLt,zLm]
   refine zLn fun k hk st=>?_
   split
   ·exact zLv
   ·rfl
theorem zLw {x:zFc} (hw:zvn x.crew=true):∀ {L:List (List POption)} {p:List POption} {ch:List Nat},(∀ o ∈ p,zBC x.chart x.fleet o.pas)→(∀ l ∈ L,∀ o ∈ l,zBC x.chart x.fleet o.pas)→p.length+L.length≤12→zKX x p=false→zLt x L p ch=[]
 | [],p,ch,hp,hL,h12,hf=>by
  rw [zLt,show zKE p=p.map (·.pas) from rfl,zKY hw hp (by rw [List.length_nil] at h12;omega),hf,if_neg Bool.false_ne_true]
 | l :: L,p,ch,hp,hL,h12,hf=>by
  rw [zLt,List.flatMap_eq_nil_iff]
  intro k hk
  have hk:=List.mem_range.1 hk
  rw [List.length_cons] at h12
  have hg:∀ o ∈ p ++ [l.getD k zJX],zBC x.chart x.fleet o.pas:=fun o ho=>by
   rcases List.mem_append.1 ho with ho|ho
   ·exact hp o ho
   ·rw [List.mem_singleton.1 ho];exact hL l (List.mem_cons_self ..) _ (zLk hk)
  split
  ·refine zLw hw hg (fun l hl=>hL l (List.mem_cons_of_mem _ hl)) (by rw [List.length_append,List.length_singleton];omega) ?_
   cases hh:zKX x (p ++ [l.getD k zJX]) with
   | false=>rfl
   | true=>rw [zK0 hw hg (by rw [List.length_append,List.length_singleton];omega) hh] at hf;cases hf
  ·rfl
theorem zLx {x:zFc} (hw:zvn x.crew=true):∀ {L:List (List POption)} {p:List POption} {ch:List Nat},(∀ o ∈ p,zBC x.chart x.fleet o.pas)→(∀ l ∈ L,∀ o ∈ l,zBC x.chart x.fleet o.pas)→p.length+L.length≤12→zKX x p=true→zLt x L p ch=zLi x L p ch
 | [],p,ch,hp,hL,h12,hf=>by
  rw [zLt,zLi,show zKE p=p.map (·.pas) from rfl,zKY hw hp (by rw [List.length_nil] at h12;omega),hf,if_pos rfl]
 | l :: L,p,ch,hp,hL,h12,hf=>by
  rw [zLt,zLi]
  rw [List.length_cons] at h12
  have key:∀ k ∈ List.range l.length,(if zK6 x p (l.getD k zJX)=true then zLt x L (p ++ [l.getD k zJX]) (ch ++ [k]) else [])=(if zK7 x p (l.getD k zJX)=true then zLi x L (p ++ [l.getD k zJX]) (ch ++ [k]) else []):=fun k hk=>by
   have hk:=List.mem_range.1 hk
   have hg:∀ o ∈ p ++ [l.getD k zJX],zBC x.chart x.fleet o.pas:=fun o ho=>by
    rcases List.mem_append.1 ho with ho|ho
    ·exact hp o ho
    ·rw [List.mem_singleton.1 ho];exact hL l (List.mem_cons_self ..) _ (zLk hk)
   have h13:(p ++ [l.getD k zJX]).length+L.length≤12:=by rw [List.length_append,List.length_singleton];omega
   have hL2:∀ l ∈ L,∀ o ∈ l,zBC x.chart x.fleet o.pas:=fun l hl=>hL l (List.mem_cons_of_mem _ hl)
   rw [zK7]
   cases hh:zKX x (p ++ [l.getD k zJX]) with
   | false =>
    rw [Bool.and_false,if_neg Bool.false_ne_true,zLw hw hg hL2 h13 hh]
    split <;> rfl
   | true=>rw [Bool.and_true,zLx hw hg hL2 h13 hh]
  rw [List.flatMap_def,List.flatMap_def,List.map_congr_left key]
theorem zLy {x:zFc}:∀ {L:List (List POption)} {p:List POption} {ch:List Nat},[] ∈ L→zLi x L p ch=[]
 | l :: L,p,ch,h=>by
  rw [zLi]
  rcases List.mem_cons.1 h with h|h
  ·rw [← h];rfl
  ·rw [List.flatMap_eq_nil_iff]
   intro k hk
   split
   ·exact zLy h
   ·rfl
noncomputable def zLz (x:zFc) (L:List (List POption)):BSt:=open Classical in if [] ∈ L then none else srS x L [] [] none
theorem zLA {x:zFc} {L:List (List POption)} (hw:zvn x.crew=true) (hL:∀ l ∈ L,∀ o ∈ l,zBC x.chart x.fleet o.pas) (hc:∀ l ∈ L,∀ o ∈ l,0≤o.cost) (h12:L.length≤12):zLz x L=srI x L [] [] none:=by
 rw [zLz,zLp hc]
 split
 ·rename_i h;rw [zLy h];rfl
 ·rw [zLv,zLx hw (fun o ho=>by cases ho) hL (by simpa using h12) (zKZ hw)]
def zLB (r:BSt):List Int × Int × Bool:=match r with
 | none=>([],0,false)
 | some (w,c)=>(zs w,c,true)
def zLC (x:zFc) (calls:List DCall):List Int × Int × Bool:=if zJJ x calls=true then zLB (srI x (zKs x calls) [] [] none) else ([],0,false)
theorem zLD (p:Int) (m:Sl Int) (d:Sl DDuty) (k:Int) (h:Hp) (hm:m.Ok h) (hd:d.Ok h):Ct jV 129 [.int .i64 p,m.val,d.val,.int .i64 k] h fun v h'=>v=.bool (zKT p m.l d.l k)∧h'=h:=by
 have hl:=hd.max
 refine Ct.forget ?_
 refine zdn (fun A W=>by simp) Tryz.func129 rfl rfl (by simp) fun W0=>?_
 refine Wk ?_
 refine zc9 rfl (fun hq=>?_) (fun hq=>?_)
 ·refine Wk ?_
  rw [zKT,decide_eq_true (of_decide_eq_true hq)];rfl
 ·refine Wk ?_
  refine zkj (zBg p m d _ hm hd) rfl ?_
  rintro v h2 le2 ⟨s2,rfl,e2,ok2,m2⟩
  refine Wk ?_
  rw [zKT,decide_eq_false (p:=(d.l.length:Int)≤k) (of_decide_eq_false hq),Bool.false_or];rfl
theorem zLE (a:Sl DOption) (h:Hp) (ha:a.Ok h) (hz:a.l.length≤1048576):Ct jV 97 [a.val] h fun v h'=>∃ s:Sl DOption,v=s.val∧s.l=a.l∧RowAt 53 h' s∧∀ g,s.a=some ⟨g,0,none⟩→h g=none:=by
 have hall:=ha.all (by decide)
 have hd:(h.ldL a.val 4).isSome=true:=by rw [show h.ldL a.val 4=_ from hall];rfl
 refine zdn (fun A W=>by simp) Tryz.func97 rfl rfl (by simp) fun W0=>?_
 repeat' first|refine Wa ?_|(simp only [go_sem,jq,jj,jy,jv,jk,jx,hall,show h.ldL a.val 4=some (a.l.flatMap Enc.enc) from hall,Option.isSome_some,Option.getD_some];try rfl)|refine Wb ?_|fail
 refine ⟨by simp only [maxLen];omega,by omega,?_⟩
 repeat' first|refine Wa ?_|(simp only [go_sem,jq,jj,jy,jv,jk,jx,hall,show h.ldL a.val 4=some (a.l.flatMap Enc.enc) from hall,Option.isSome_some,Option.getD_some];try rfl)|refine Wb ?_|fail
 refine ⟨fun u hu=>by obtain ⟨x,_,hx⟩:=List.mem_flatMap.1 hu;exact Enc.one x u hx,by simp only [maxLen];omega,by omega,?_⟩
 refine znD 1 a.l rfl rfl (Nat.zero_add _) rfl fun s h' e1 R f1 l1 k1=>?_
 refine Wk ?_
 exact ⟨s,rfl,e1,R,f1⟩
theorem zLF {l:List DOption}:(l.map (Con.con (α:=DOption))).flatMap (·.pas)=l.flatMap (·.pas.l):=by
 rw [List.flatMap_map,List.flatMap_def,List.flatMap_def]
 exact congrArg List.flatten (List.map_congr_left fun o _=>zxH _)
theorem zLG {o:DOption}:(Con.con o).pas=o.pas.l:=zxH _
theorem zLH {c:zFb} {l:List POption} {o:POption} (h:0 < o.pas.length):pilD c (l ++ [o])=pilD c l ++ [zxA c (o.pas.getD 0 dQ) (o.pas.getD (o.pas.length - 1) dQ)]:=by
 rw [pilD,List.filter_append,List.map_append]
 simp [pilD,h]
theorem zLI {c:DChart} {l:List DOption} {h:Hp} {f:List DShip} (hc:Enc.ok h c) (hl:∀ o ∈ l,Enc.ok h o) (hg:∀ o ∈ l,zBC (Con.con c) f o.pas.l):∀ d ∈ pilD (Con.con c) (l.map Con.con),Enc.ok h d:=fun d hd=>by
 obtain ⟨y,hy,rfl⟩:=List.mem_map.1 hd
 obtain ⟨o,ho,rfl⟩:=List.mem_map.1 (List.mem_filter.1 hy).1
 obtain ⟨h1,h2,h3⟩:=hg o ho
 have:=zxI (f:=f) (h2:=h) hc (hl o ho).2.2.2
 rw [zxH,zxD h1 h2 h3] at this
 rw [zLG]
 exact this
set_option maxRecDepth 30000 in
theorem zLJ (x:DHarbour) (a:Sl DOption) (h:Hp) (hx:Enc.ok h x) (ha:a.Ok h) (hg:∀ o ∈ a.l,zBC (Con.con x.chart) x.fleet.l o.pas.l) (hz:(a.l.flatMap (·.pas.l)).length≤1048576) (hz2:a.l.length≤1048576):Ct jV 96 [x.v,a.val] h fun v h'=>v=.bool (zKX (Con.con x) (a.l.map Con.con))∧h'=h:=by
 have hl:=ha.max
 refine Ct.forget ?_
 refine zdn (fun A W=>by simp) Tryz.func96 rfl rfl (by simp) fun W0=>?_
 refine Wk ?_
 refine zl0 (ι:=Nat) (fun k=>⟨[(2,true,.c (.p 0 0)),(4,true,.c (.v (.bool false))),(5,true,.c (.s 1)),(6,true,.c (.s 2)),(13,true,.c (.v a.val)),(14,true,.c (.v (.int .i64 a.l.length))),(15,true,.c (.v (.int .i64 k)))],[(0,.box 40 [.v (.int .i64 x.forecast.tide.mean),.v x.forecast.tide.parts.val,.v x.forecast.surges.val,.v x.chart.points.val,.v x.chart.segments.val,.v x.fleet.val,.v (.int .i64 x.regime.gap),.v (.bool x.regime.noMeet),.v (.int .i64 x.crew.tugs),.v (.int .i64 x.crew.pilots),.v (.int .i64 x.crew.rest),.v x.crew.moves.val]),(1,.row 55 5 ((a.l.take k).flatMap (·.pas.l)).length (((a.l.take k).flatMap (·.pas.l)).flatMap Enc.enc)),(2,.row 108 4 (pilD (Con.con x.chart) ((a.l.take k).map Con.con)).length ((pilD (Con.con x.chart) ((a.l.take k).map Con.con)).flatMap Enc.enc))],h,3⟩) (fun k=>k≤a.l.length) (fun k=>a.l.length - k) 0 (Nat.zero_le _) [0,1,2] ?_ ?_
 ·refine Evs ?_
  exact Gk
 intro k hk
 refine Wk ?_
 refine zc9 rfl (fun hd=>?_) (fun hd=>?_)
 ·have hlt:=zjH hd
  have hok:=ha.el hlt
  have hop:a.l[k].pas.Ok h:=hok.2.2.2
  have hall:h.ldL a.l[k].pas.val 5=some (a.l[k].pas.l.flatMap Enc.enc):=Sl.Ok.all hop (by decide)
  have hfl:(a.l.take (k+1)).flatMap (·.pas.l)=(a.l.take k).flatMap (·.pas.l) ++ a.l[k].pas.l:=by rw [List.take_succ_eq_append_getElem hlt,List.flatMap_append];simp
  have hle:((a.l.take (k+1)).flatMap (·.pas.l)).length≤(a.l.flatMap (·.pas.l)).length:=by
   rw [← List.take_append_drop (k+1) a.l,List.flatMap_append,List.take_append_drop,List.length_append];omega
  rw [hfl,List.length_append] at hle
  obtain ⟨h0,hC,hP⟩:=hg _ (List.getElem_mem hlt)
  have hpm:=hop.max
  have hpl:=zCf (c:=Con.con x.chart) (l:=(a.l.take k).map Con.con)
  rw [List.length_map,List.length_take] at hpl
  repeat' first|refine Wa ?_|(simp only [go_sem,jq,jj,jy,jv,jk,jx,zkC ha hlt,ha.some hlt,hlt,jW];try rfl)|refine Wb ?_|fail
  simp only [hall,Option.isSome_some,Option.getD_some,← hfl,← List.flatMap_append,← List.length_append]
  refine ⟨trivial,fun u hu=>zKm hu,by simp only [maxLen];rw [hfl,List.length_append];omega,by rw [hfl,List.length_append];omega,?_⟩
  refine Wk ?_
  refine zc9 rfl (fun hq=>?_) (fun hq=>?_)
  case refine_2=>exact absurd (of_decide_eq_false hq) (by omega)
  have hn1:a.l[k].pas.l.length - 1 < a.l[k].pas.l.length:=by omega
  have hwn:IntKind.i64.wrap ((a.l[k].pas.l.length:Int) - 1)=((a.l[k].pas.l.length - 1:Nat):Int):=by rw [zjz (by omega)];omega
  obtain ⟨g1,g2⟩:=zxE hC h0
  obtain ⟨g3,g4⟩:=zxE hC hn1
  have h0i:(0:Int) < a.l[k].pas.l.length:=by omega
  have ha0:=Sl.Ok.some hop h0
  have hs0:=zky hop h0
  have hs1:=zlO hop h0
  simp only [go_sem,Nat.zero_mul] at hs0 hs1
  refine Wk ?_
  refine znv rfl ?_
  refine U_t [0,1,3,7,9,2,4,8,10,5,11,6,12,13,14] rfl ?_
  simp only [go_sem,jq,jj,jy,jv,jk,jx,ha0,hs0,hs1,h0i,Int.toNat_zero,Nat.zero_mul,Int.le_refl,implies_true,true_and,and_true,zky hop hn1,Sl.Ok.some hop hn1,hn1,jW,hwn,zkC ha hlt,ha.some hlt,hlt]
  refine U_1 15 0 [] rfl rfl ?_
  simp only [go_sem,jq,jj,jy,jv,jk,jx,ha0,hs0,hs1,h0i,Int.toNat_zero,Nat.zero_mul,Int.le_refl,implies_true,true_and,and_true,zky hop hn1,Sl.Ok.some hop hn1,hn1,jW,hwn,zkC ha hlt,ha.some hlt,hlt]
  refine zhF (fun _=>zxF x.chart _ _ _ hx.2.1 g1 g2 g3 g4) ?_
  simp only [go_sem,jq,jj,jy,jv,jk,jx,ha0,hs0,hs1,h0i,Int.toNat_zero,Nat.zero_mul,Int.le_refl,implies_true,true_and,and_true,zky hop hn1,Sl.Ok.some hop hn1,hn1,jW,hwn,zkC ha hlt,ha.some hlt,hlt]
  refine U_1 16 0 [] rfl rfl ?_
  simp only [go_sem,jq,jj,jy,jv,jk,jx,ha0,hs0,hs1,h0i,Int.toNat_zero,Nat.zero_mul,Int.le_refl,implies_true,true_and,and_true,zky hop hn1,Sl.Ok.some hop hn1,hn1,jW,hwn,zkC ha hlt,ha.some hlt,hlt]
  refine U_1 17 0 [] rfl rfl ?_
  simp only [go_sem,jq,jj,jy,jv,jk,jx,ha0,hs0,hs1,h0i,Int.toNat_zero,Nat.zero_mul,Int.le_refl,implies_true,true_and,and_true,zky hop hn1,Sl.Ok.some hop hn1,hn1,jW,hwn,zkC ha hlt,ha.some hlt,hlt]
  refine ⟨by simp only [maxLen];omega,by omega,?_⟩
  refine U_t [18] rfl ?_
  simp only [go_sem,jq,jj,jy,jv,jk,jx,ha0,hs0,hs1,h0i,Int.toNat_zero,Nat.zero_mul,Int.le_refl,implies_true,true_and,and_true,zky hop hn1,Sl.Ok.some hop hn1,hn1,jW,hwn,zkC ha hlt,ha.some hlt,hlt]
  refine U_d ?_
  refine Wk ?_
  have hpd:pilD (Con.con x.chart) ((a.l.take (k+1)).map Con.con)=pilD (Con.con x.chart) ((a.l.take k).map Con.con) ++ [zxA (Con.con x.chart) a.l[k].pas.l[0] a.l[k].pas.l[a.l[k].pas.l.length - 1]]:=by
   rw [List.take_succ_eq_append_getElem hlt,List.map_append,List.map_cons,List.map_nil,zLH (by rw [zLG];exact h0),zLG]
   simp [List.getD_eq_getElem?_getD,h0,hn1]
  refine ⟨k+1,[0,4,6],hlt,by omega,?_⟩
  refine Evs ?_
  rw [hpd,List.flatMap_append,List.length_append]
  exact Gi (zjA hlt (by omega))
 ·have hge:=zjI hd
  have hke:k=a.l.length:=by omega
  rw [hke,List.take_length]
  refine zc6 ?_
  refine Evs ?_
  refine zlE 1 (a.l.flatMap (·.pas.l)) rfl rfl rfl rfl (by decide) (fun y hy=>?_) h (Hp.le_refl _) (Mines.flat (fun _=>rfl) (fun _=>trivial)) fun s h' e1 e2 e3 e4=>?_
  ·obtain ⟨z,hz,hy⟩:=List.mem_flatMap.1 hy
   exact (ha.2.2.2.1 z hz).2.2.2.2.2.2.1 y hy
  have hx1:Enc.ok h' x:=Enc.mono e3 hx
  refine zlE 2 (pilD (Con.con x.chart) (a.l.map Con.con)) rfl rfl rfl rfl (by decide) (zLI hx1.2.1 (fun o ho=>Enc.mono e3 (ha.2.2.2.1 o ho)) hg) h e3 (Mines.flat (fun _=>rfl) (fun _=>trivial)) fun d h2 d1 d2 d3 d4=>?_
  have hx2:Enc.ok h2 x:=Enc.mono d3 hx1
  refine Wk ?_
  refine zkj (zKe x.chart x.fleet s _ hx2.2.1 hx2.2.2.1 (e2.mono d3)) rfl ?_
  rintro v h3 le3 ⟨t,rfl,et,okt,mt⟩
  have hx3:Enc.ok h3 x:=Enc.mono le3 hx2
  have hfc:zJ4 (Con.con x).chart (Con.con x).fleet ((a.l.map Con.con).flatMap (·.pas))=zJ4 (Con.con x.chart) x.fleet.l s.l:=by
   rw [zLF,e1,show (Con.con x).fleet=x.fleet.l from zu4 _];rfl
  have hcw:(Con.con x).crew.moves=x.crew.moves.l:=zBo x.crew
  have okd:=d2.mono le3
  rw [zKX,hfc,hcw]
  cases htd:zJ4 (Con.con x.chart) x.fleet.l s.l with
  | none =>
   refine Evs ?_
   refine Wk ?_
   refine zhF (V:=.bool false) (fun e=>by cases e) ?_
   refine Evs ?_
   refine Wk ?_
   refine zhF (V:=.bool false) (fun e=>by cases e) ?_
   refine Evs ?_
   exact Wk0
  | some dl =>
   rw [htd] at et
   have et:t.l=dl:=et
   refine Evs ?_
   refine Wk ?_
   refine zhF (fun _=>zLD 0 x.crew.moves t x.crew.tugs _ hx3.2.2.2.2.2.2.2 okt) ?_
   refine Evs ?_
   refine Wk ?_
   refine zhF (fun _=>zLD x.crew.rest x.crew.moves d x.crew.pilots _ hx3.2.2.2.2.2.2.2 okd) ?_
   refine Evs ?_
   refine Wk ?_
   rw [et,d1];rfl
theorem zLK {x:DHarbour} {l:List DOption} {o:DOption}:zK6 (Con.con x) (l.map Con.con) (Con.con o)=!(l.any fun p=>zJO (Con.con x.chart) x.regime p.pas.l o.pas.l):=by
 rw [zK6,List.any_map]
 congr 2
 funext p
 simp only [Function.comp,zLG]
 rfl
theorem zLL {α:Type} {f:α→Bool} {l:List α} {k:Nat} (hk:k < l.length) (h0:(l.take k).any f=false) (h1:f l[k]=false):(l.take (k+1)).any f=false:=by
 rw [zJP hk,h0,h1];rfl
set_option maxRecDepth 30000 in
theorem zLM (x:DHarbour) (a:Sl DOption) (o:DOption) (h:Hp) (hx:Enc.ok h x) (ha:a.Ok h) (ho:Enc.ok h o) (hr:zvl x.regime=true) (hg:∀ p ∈ a.l ++ [o],zBC (Con.con x.chart) x.fleet.l p.pas.l) (hz:((a.l ++ [o]).flatMap (·.pas.l)).length≤1048576) (hz2:a.l.length≤1000):Ct jV 54 [x.v,a.val,o.v] h fun v h'=>v=.bool (zK7 (Con.con x) (a.l.map Con.con) (Con.con o))∧h'=h:=by
 have hl:=ha.max
 refine Ct.forget ?_
 refine zdn (fun A W=>by simp) Tryz.func54 rfl rfl (by simp) fun W0=>?_
 refine Wk ?_
 refine zl0 (ι:=Nat) (fun k=>⟨[(1,true,.c (.v a.val)),(3,true,.c (.p 0 0)),(5,true,.c (.p 1 0)),(6,true,.c (.v (.bool false))),(9,true,.c (.v a.val)),(10,true,.c (.v (.int .i64 a.l.length))),(11,true,.c (.v (.int .i64 k)))],[(0,.box 40 [.v (.int .i64 x.forecast.tide.mean),.v x.forecast.tide.parts.val,.v x.forecast.surges.val,.v x.chart.points.val,.v x.chart.segments.val,.v x.fleet.val,.v (.int .i64 x.regime.gap),.v (.bool x.regime.noMeet),.v (.int .i64 x.crew.tugs),.v (.int .i64 x.crew.pilots),.v (.int .i64 x.crew.rest),.v x.crew.moves.val]),(1,.box 53 [.v (.int .i64 o.start),.v (.int .i64 o.arr),.v (.int .i64 o.cost),.v o.pas.val])],h,2⟩) (fun k=>k≤a.l.length∧((a.l.take k).any fun p=>zJO (Con.con x.chart) x.regime p.pas.l o.pas.l)=false) (fun k=>a.l.length - k) 0 ⟨Nat.zero_le _,rfl⟩ [0,1] ?_ ?_
 ·refine Evs ?_
  exact Gk
 rintro k ⟨hk,hno⟩
 refine Wk ?_
 refine zc9 rfl (fun hd=>?_) (fun hd=>?_)
 ·have hlt:=zjH hd
  repeat' first|refine Wa ?_|refine zhF (fun _=>zJ1 x.chart x.regime a.l[k].pas o.pas _ hx.2.1 hr (ha.el hlt).2.2.2 ho.2.2.2) ?_|(simp only [go_sem,jq,jj,jy,jv,jk,jx,zkC ha hlt,ha.some hlt,hlt,jW];try rfl)|refine Wb ?_|fail
  refine zc9 rfl (fun hq=>?_) (fun hq=>?_)
  ·refine Wk ?_
   rw [zK7,zLK,zJQ (f:=fun p=>zJO (Con.con x.chart) x.regime p.pas.l o.pas.l) hlt hq]
   rfl
  ·refine Wk ?_
   refine ⟨k+1,[0,1],⟨hlt,zLL hlt hno hq⟩,by omega,?_⟩
   refine Evs ?_
   exact Gi (zjA hlt (by omega))
 ·have hge:=zjI hd
  have hke:k=a.l.length:=by omega
  rw [hke,List.take_length] at hno
  refine zc6 ?_
  refine Evs ?_
  refine zc3 ?_
  refine znv rfl ?_
  refine U_t [0,1,3] rfl ?_
  refine Evs ?_
  refine U_m 2 [4] ⟨?_,?_,trivial⟩
  ·refine U_b 2 0 [3,0] rfl rfl ?_
   refine Evs ?_
   refine zkj (zLE a _ ha (by omega)) rfl ?_
   rintro v h1 le1 ⟨q,rfl,eq1,Rq,fq⟩
   refine Evs ?_
   refine U_1 4 0 [0] rfl rfl ?_
   refine Evs ?_
   refine U_1 5 3 [0] rfl rfl ?_
   refine Evs ?_
   refine znE (s:=q) rfl Rq (fun g hg=>.inl (fq g hg)) ?_
   refine Evs ?_
   refine ⟨rfl,by rw [eq1];simp only [maxLen];omega,by rw [eq1];omega,fun ad cap h2 P=>?_⟩
   have P':Pub (znC h1 q) 53 (Enc.size DOption) (q.l ++ [o]).length ((q.l ++ [o]).flatMap Enc.enc) ad cap h2:=by
    rw [List.length_append,List.flatMap_append];exact P
   have led:h.le (znC h1 q):=znF le1 fq Rq.addr
   have k2:(Sl.mk ad cap (q.l ++ [o])).Ok h2:=Pub.sl (by decide) P' fun y hy=>by
    rcases List.mem_append.1 hy with hy|hy
    ·exact Enc.mono led (ha.2.2.2.1 y (by rw [← eq1];exact hy))
    ·rw [List.mem_singleton.1 hy];exact Enc.mono led ho
   have le2:h.le h2:=Hp.le_trans led P'.le
   rw [show Value.slice ad (q.l.length+1) cap=(Sl.mk ad cap (q.l ++ [o])).val from by simp only [Sl.val,List.length_append,List.length_singleton]]
   try simp only [go_sem,jq,jj,jy,jv,jk,jx]
   refine U_1 6 0 [] rfl rfl ?_
   refine Evs ?_
   refine zhF (fun _=>zLJ x ⟨ad,cap,q.l ++ [o]⟩ _ (Enc.mono le2 hx) k2 (by rw [eq1];exact hg) (by rw [eq1];exact hz) (by rw [eq1,List.length_append,List.length_singleton];omega)) ?_
   try simp only [go_sem,jq,jj,jy,jv,jk,jx]
   rw [eq1,List.map_append]
   refine U_t [7] rfl ?_
   refine Evs ?_
   refine U_d ?_
   refine Wk ?_
   rw [zK7,zLK,hno]
   rfl
  ·refine U_b 4 0 [0] rfl rfl ?_
   refine Evs ?_
   refine U_1 2 0 [0] rfl rfl ?_
   refine Evs ?_
   refine zkj (zLE a _ ha (by omega)) rfl ?_
   rintro v h1 le1 ⟨q,rfl,eq1,Rq,fq⟩
   refine Evs ?_
   refine U_1 5 3 [0] rfl rfl ?_
   refine Evs ?_
   refine znE (s:=q) rfl Rq (fun g hg=>.inl (fq g hg)) ?_
   refine Evs ?_
   refine ⟨rfl,by rw [eq1];simp only [maxLen];omega,by rw [eq1];omega,fun ad cap h2 P=>?_⟩
   have P':Pub (znC h1 q) 53 (Enc.size DOption) (q.l ++ [o]).length ((q.l ++ [o]).flatMap Enc.enc) ad cap h2:=by
    rw [List.length_append,List.flatMap_append];exact P
   have led:h.le (znC h1 q):=znF le1 fq Rq.addr
   have k2:(Sl.mk ad cap (q.l ++ [o])).Ok h2:=Pub.sl (by decide) P' fun y hy=>by
    rcases List.mem_append.1 hy with hy|hy
    ·exact Enc.mono led (ha.2.2.2.1 y (by rw [← eq1];exact hy))
    ·rw [List.mem_singleton.1 hy];exact Enc.mono led ho
   have le2:h.le h2:=Hp.le_trans led P'.le
   rw [show Value.slice ad (q.l.length+1) cap=(Sl.mk ad cap (q.l ++ [o])).val from by simp only [Sl.val,List.length_append,List.length_singleton]]
   try simp only [go_sem,jq,jj,jy,jv,jk,jx]
   refine U_1 6 0 [] rfl rfl ?_
   refine Evs ?_
   refine zhF (fun _=>zLJ x ⟨ad,cap,q.l ++ [o]⟩ _ (Enc.mono le2 hx) k2 (by rw [eq1];exact hg) (by rw [eq1];exact hz) (by rw [eq1,List.length_append,List.length_singleton];omega)) ?_
   try simp only [go_sem,jq,jj,jy,jv,jk,jx]
   rw [eq1,List.map_append]
   refine U_t [7] rfl ?_
   refine Evs ?_
   refine U_d ?_
   refine Wk ?_
   rw [zK7,zLK,hno]
   rfl
theorem zLN {x:zFc} {calls:List DCall} (h:zJJ x calls=true):zvl x.regime=true∧zva x.chart=true:=by
 rw [zJJ,zvo] at h
 simp only [jJ] at h
 exact ⟨h.1.1.1.2,h.1.1.1.1.1.2⟩
theorem zLO {p:Sl DOption} (hz:Sz.sz (Con.con p)≤1048576):(∀ {k:Nat} (hk:k < p.l.length),Sz.sz (Con.con p.l[k])≤1048576)∧(p.l.flatMap (·.pas.l)).length≤1048576:=by
 have hl:(Con.con p).length=p.l.length:=List.length_map ..
 have hs:=zmu (l:=Con.con p)
 rw [hs] at hz
 have key:∀ (l:List DOption) (B:Nat),((l.map (Con.con (α:=DOption))).map Sz.sz).sum≤B→(∀ {k:Nat} (hk:k < l.length),Sz.sz (Con.con l[k])≤B)∧(l.flatMap (·.pas.l)).length≤B:=by
  intro l
  induction l with
  | nil=>intro B _;exact ⟨fun {k} hk=>(by cases hk),Nat.zero_le _⟩
  | cons o l ih =>
   intro B hB
   rw [List.map_cons,List.map_cons,List.sum_cons] at hB
   have ho:o.pas.l.length≤Sz.sz (Con.con o):=by
    have h2:Sz.sz (Con.con o)=Sz.sz (Con.con o.pas):=rfl
    have:=zmv (Nat.le_of_eq h2.symm)
    rwa [zmw] at this
   obtain ⟨i1,i2⟩:=ih (B - Sz.sz (Con.con o)) (by omega)
   refine ⟨fun {k} hk=>?_,?_⟩
   ·cases k with
    | zero=>show Sz.sz (Con.con o)≤B;omega
    | succ k =>
     have hk':k < l.length:=by simpa using hk
     have:=i1 hk'
     show Sz.sz (Con.con (l[k]'hk'))≤B
     omega
   ·rw [List.flatMap_cons,List.length_append];omega
 obtain ⟨k1,k2⟩:=key p.l 1048576 (by show (List.map Sz.sz (Con.con p)).sum≤_;omega)
 exact ⟨k1,k2⟩
set_option maxRecDepth 30000 in
theorem zLP (x:DHarbour) (a:Sl DCall) (p:Sl DOption) (h:Hp) (hx:Enc.ok h x) (ha:a.Ok h) (hp:p.Ok h) (hz:Sz.sz (Con.con p)≤1048576):Ct jV 17 [x.v,a.val,p.val] h fun v h'=>v=.bool (zK8 (Con.con x) (Con.con a) (Con.con p))∧h'=h:=by
 have hla:=ha.max
 have hlp:=hp.max
 obtain ⟨hsz,hsf⟩:=zLO hz
 rw [zJK,show Con.con p=p.l.map Con.con from rfl,zK8]
 refine Ct.forget ?_
 refine zdn (fun A W=>by simp) Tryz.func17 rfl rfl (by simp) fun W0=>?_
 repeat' first|refine Wa ?_|refine zhF (fun _=>zJL x a _ hx ha) ?_|(simp only [go_sem,jq,jj,jy,jv,jk,jx];try rfl)|refine Wb ?_|fail
 rw [zJK]
 refine zc9 rfl (fun hc=>?_) (fun hc=>?_)
 ·refine Wk ?_
  rcases (jQ _ _).mp hc with h1|h1
  ·rw [Bool.not_eq_true'] at h1;rw [h1];rfl
  ·rw [decide_eq_false (p:=(p.l.map (Con.con (α:=DOption))).length=a.l.length) (by have:=zjD h1;rw [List.length_map];omega),Bool.and_false];rfl
 obtain ⟨hH,h6⟩:=Bool.or_eq_false_iff.1 hc
 rw [Bool.not_eq_false'] at hH
 have hlen:p.l.length=a.l.length:=by have:=zjE h6;omega
 have h6:=zKv hH
 obtain ⟨hR,hC⟩:=zLN hH
 have hR:zvl x.regime=true:=hR
 rw [hH,decide_eq_true (show (p.l.map (Con.con (α:=DOption))).length=a.l.length by rw [List.length_map];exact hlen),Bool.and_self,Bool.true_and]
 refine Wk ?_
 refine zl0 (ι:=Nat) (fun k=>⟨[(2,true,.c (.v p.val)),(3,true,.c (.p 0 0)),(6,true,.c (.v (.bool false))),(20,true,.c (.v a.val)),(21,true,.c (.v (.int .i64 a.l.length))),(22,true,.c (.v (.int .i64 k)))],[(0,.box 40 [.v (.int .i64 x.forecast.tide.mean),.v x.forecast.tide.parts.val,.v x.forecast.surges.val,.v x.chart.points.val,.v x.chart.segments.val,.v x.fleet.val,.v (.int .i64 x.regime.gap),.v (.bool x.regime.noMeet),.v (.int .i64 x.crew.tugs),.v (.int .i64 x.crew.pilots),.v (.int .i64 x.crew.rest),.v x.crew.moves.val])],h,1⟩) (fun k=>k≤a.l.length∧∀ i,i < k→ipAt (Con.con x) a.l (p.l.map Con.con) i=true) (fun k=>a.l.length - k) 0 ⟨Nat.zero_le _,zvf⟩ [0] ?_ ?_
 ·refine Evs ?_
  exact Gk
 rintro k ⟨hk,hip⟩
 refine Wk ?_
 refine zc9 rfl (fun hd=>?_) (fun hd=>?_)
 ·have hlt:=zjH hd
  have hltp:k < p.l.length:=by omega
  have hltpi:(k:Int) < p.l.length:=by omega
  have hpk:k≤p.l.length:=by omega
  have hcap:k≤p.cap:=by have:=hp.1;omega
  have hcapi:(k:Int)≤p.cap:=by omega
  have hfl:(Con.con x).fleet=x.fleet.l:=zu4 _
  have hge:a.l.getD k dC=a.l[k]:=cget hlt
  have hgp:(p.l.map (Con.con (α:=DOption))).getD k zJX=Con.con p.l[k]:=by simp [List.getD_eq_getElem?_getD,hltp]
  have htk:(p.to k).l.map (Con.con (α:=DOption))=(p.l.map Con.con).take k:=(show (p.l.take k).map (Con.con (α:=DOption))=_ from List.map_take)
  have good:zyW (Con.con x) (Con.con a.l[k]) (Con.con p.l[k])=true→∀ q ∈ (p.to k).l ++ [p.l[k]],zBC (Con.con x.chart) x.fleet.l q.pas.l:=fun hio q hq=>by
   have key:∀ i,i≤k→∀ hi:i < p.l.length,zBC (Con.con x.chart) x.fleet.l p.l[i].pas.l:=fun i hik hi=>by
    have hai:i < a.l.length:=by omega
    have hgi:(p.l.map (Con.con (α:=DOption))).getD i zJX=Con.con p.l[i]:=by simp [List.getD_eq_getElem?_getD,hi]
    have h9:zyW (Con.con x) a.l[i] (Con.con p.l[i])=true:=by
     rcases Nat.lt_or_ge i k with h8|h8
     ·have:=hip i h8
      rw [ipAt,jJ,hgi,cget hai] at this
      exact this.1
     ·obtain rfl:i=k:=by omega
      exact hio
    have:=zKr h9
    rw [zLG] at this
    exact this
   rcases List.mem_append.1 hq with hq|hq
   ·obtain ⟨i,hi,rfl⟩:=List.getElem_of_mem hq
    have hik:i < k:=by rw [Sl.to_len (by omega)] at hi;exact hi
    rw [Sl.to_get hi (by omega)]
    exact key i (by omega) (by omega)
   ·rw [List.mem_singleton.1 hq];exact key k (Nat.le_refl _) hltp
  have szs:∀ (hk2:k < p.l.length),(((p.to k).l ++ [p.l[k]]).flatMap (·.pas.l)).length≤1048576:=fun hk2=>by
   rw [show (p.to k).l ++ [p.l[k]]=p.l.take (k+1) from (List.take_succ_eq_append_getElem hk2).symm]
   refine Nat.le_trans ?_ hsf
   rw [← List.take_append_drop (k+1) p.l,List.flatMap_append,List.take_append_drop,List.length_append]
   exact Nat.le_add_right _ _
  repeat' first|refine Wa ?_|(simp only [go_sem,jq,jj,jy,jv,jk,jx,zE7 ha hlt,ha.some hlt,hlt,jW];try rfl)|refine Wb ?_|fail
  refine znv rfl ?_
  refine U_t [0,1,2,3,4,5] rfl ?_
  simp only [go_sem,jq,jj,jy,jv,jk,jx,zE7 ha hlt,ha.some hlt,hlt,zkC hp hltp,hp.some hltp,hltp,hltpi,jW,jY,Int.toNat_zero,Nat.sub_zero,Nat.zero_mul,zmA,zmB,ite_self,hcapi,hcap,zmC hpk,implies_true,true_and,and_true,and_self]
  refine U_1 6 0 [] rfl rfl ?_
  simp only [go_sem,jq,jj,jy,jv,jk,jx,zE7 ha hlt,ha.some hlt,hlt,zkC hp hltp,hp.some hltp,hltp,hltpi,jW,jY,Int.toNat_zero,Nat.sub_zero,Nat.zero_mul,zmA,zmB,ite_self,hcapi,hcap,zmC hpk,implies_true,true_and,and_true,and_self]
  refine zhF (fun _=>zyY x a.l[k] p.l[k] _ hx (ha.el hlt) (hp.el hltp) (hsz hltp)) ?_
  simp only [go_sem,jq,jj,jy,jv,jk,jx,zE7 ha hlt,ha.some hlt,hlt,zkC hp hltp,hp.some hltp,hltp,hltpi,jW,jY,Int.toNat_zero,Nat.sub_zero,Nat.zero_mul,zmA,zmB,ite_self,hcapi,hcap,zmC hpk,implies_true,true_and,and_true,and_self]
  refine U_t [7,8,9,10,11,13,14,15,16] rfl ?_
  simp only [go_sem,jq,jj,jy,jv,jk,jx,zE7 ha hlt,ha.some hlt,hlt,zkC hp hltp,hp.some hltp,hltp,hltpi,jW,jY,Int.toNat_zero,Nat.sub_zero,Nat.zero_mul,zmA,zmB,ite_self,hcapi,hcap,zmC hpk,implies_true,true_and,and_true,and_self]
  refine U_1 12 0 [16,15,9] rfl rfl ?_
  simp only [go_sem,jq,jj,jy,jv,jk,jx,zE7 ha hlt,ha.some hlt,hlt,zkC hp hltp,hp.some hltp,hltp,hltpi,jW,jY,Int.toNat_zero,Nat.sub_zero,Nat.zero_mul,zmA,zmB,ite_self,hcapi,hcap,zmC hpk,implies_true,true_and,and_true,and_self]
  refine U_1 17 0 [] rfl rfl ?_
  simp only [go_sem,jq,jj,jy,jv,jk,jx,zE7 ha hlt,ha.some hlt,hlt,zkC hp hltp,hp.some hltp,hltp,hltpi,jW,jY,Int.toNat_zero,Nat.sub_zero,Nat.zero_mul,zmA,zmB,ite_self,hcapi,hcap,zmC hpk,implies_true,true_and,and_true,and_self]
  refine zhF (fun hio=>zLM x (p.to k) p.l[k] _ hx (Sl.to_ok hp k) (hp.el hltp) hR (good (by simpa using hio)) (szs hltp) (by rw [Sl.to_len (by omega)];omega)) ?_
  simp only [go_sem,jq,jj,jy,jv,jk,jx,zE7 ha hlt,ha.some hlt,hlt,zkC hp hltp,hp.some hltp,hltp,hltpi,jW,jY,Int.toNat_zero,Nat.sub_zero,Nat.zero_mul,zmA,zmB,ite_self,hcapi,hcap,zmC hpk,implies_true,true_and,and_true,and_self]
  refine U_t [18,19] rfl ?_
  simp only [go_sem,jq,jj,jy,jv,jk,jx,zE7 ha hlt,ha.some hlt,hlt,zkC hp hltp,hp.some hltp,hltp,hltpi,jW,jY,Int.toNat_zero,Nat.sub_zero,Nat.zero_mul,zmA,zmB,ite_self,hcapi,hcap,zmC hpk,implies_true,true_and,and_true,and_self]
  refine U_d ?_
  have hat:ipAt (Con.con x) a.l (p.l.map Con.con) k=(zyW (Con.con x) (Con.con a.l[k]) (Con.con p.l[k]) && zK7 (Con.con x) ((p.to k).l.map Con.con) (Con.con p.l[k])):=by
   rw [ipAt,hge,hgp,htk];rfl
  refine zc9 rfl (fun hq=>?_) (fun hq=>?_)
  ·refine Wk ?_
   have hf:ipAt (Con.con x) a.l (p.l.map Con.con) k=false:=by
    rw [hat]
    rcases (jQ _ _).mp hq with h1|h1
    ·rw [Bool.not_eq_true'] at h1;rw [h1];rfl
    ·rw [Bool.not_eq_true'] at h1;rw [h1,Bool.and_false]
   rw [decide_eq_false fun H=>by rw [H k hlt] at hf;cases hf]
  ·refine Wk ?_
   have hf:ipAt (Con.con x) a.l (p.l.map Con.con) k=true:=by
    rw [hat]
    obtain ⟨h1,h2⟩:=Bool.or_eq_false_iff.1 hq
    rw [Bool.not_eq_false'] at h1 h2
    rw [h1,h2];rfl
   refine ⟨k+1,[0],⟨hlt,fun i hi=>?_⟩,by omega,?_⟩
   ·rcases Nat.lt_succ_iff_lt_or_eq.1 hi with hi|rfl
    ·exact hip i hi
    ·exact hf
   refine Evs ?_
   exact Gi (zjA hlt (by omega))
 ·have hge:=zjI hd
  obtain rfl:k=a.l.length:=by omega
  refine Wk ?_
  rw [decide_eq_true hip]
end Go.Proofs.YtdeflkhkfmjckaaGreat
