/- What functions of the given program compute, as contracts. -/
import Derived.Test.YtdejfjdbcggilaaGreatXGBestMates18
set_option linter.unusedVariables false
set_option linter.unusedSimpArgs false
set_option maxRecDepth 4000
open Nat renaming reduceAdd → jq, reduceMul → jj, reduceBEq → jy, reduceLeDiff → jv, reduceLT → jk, reduceEqDiff → jx
open Bool renaming or_eq_false_iff → jp, or_eq_true → jQ, and_eq_true → jJ
open Int renaming toNat_natCast → jW, natCast_nonneg → jY
open Go.Proofs.Tryz renaming prog → jV
namespace Go.Proofs.YtdejfjdbcggilaaGreat
open Go Go.SL
set_option maxHeartbeats 1000000
theorem zJz {P:Nat→Prop} (h:∃ n,P n):∃ n,P n∧∀ m,P m→n≤m:=by
 classical
 obtain ⟨n,hn⟩:=h
 induction n using Nat.strongRecOn with
 | _ n ih =>
  by_cases hc:∃ m,m < n∧P m
  ·obtain ⟨m,hm,hp⟩:=hc;exact ih m hm hp
  ·exact ⟨n,hn,fun m hm=>Nat.le_of_not_lt fun hlt=>hc ⟨m,hlt,hm⟩⟩
theorem zJA {both:Nat→Nat→Bool} {n:Nat}:∃ w k,zIr both n=some (w,k)∧CovOn both (fun i=>i < n) k∧(∀ j,CovOn both (fun i=>i < n) j→k≤j)∧k≤n:=by
 obtain ⟨k,h1,h2⟩:=zJz (P:=fun k=>CovOn both (fun i=>i < n) k) ⟨n,CovOn.id fun i hi=>hi⟩
 obtain ⟨w,hw⟩:=Option.isSome_iff_exists.1 (zIu.2 h1)
 have hm:k≤n:=h2 n (CovOn.id fun i hi=>hi)
 refine ⟨w,k,zIv (fun j hj=>?_) hw hm,h1,h2,hm⟩
 cases hh:zDd both j n [] with
 | none=>rfl
 | some w' =>
  have:=h2 j (zIu.1 (by rw [hh];rfl))
  omega
theorem zJB {p:Int} {m:List Int} {l:List DDuty} (h:zIs p m l=true):0≤(zIt p m l).2.1∧(zIt p m l).2.1≤l.length∧∀ k:Int,(zIt p m l).2.1≤k ↔ 0≤k∧CovOn (zIq p m l) (fun i=>i < l.length) k.toNat:=by
 obtain ⟨w,n,h1,h2,h3,h4⟩:=zJA (both:=zIq p m l) (n:=l.length)
 rw [zIB h h1]
 refine ⟨jY _,by simp only;omega,fun k=>⟨fun hk=>?_,fun hk=>?_⟩⟩
 ·simp only at hk
  exact ⟨by omega,h2.mono (by omega)⟩
 ·have:=h3 _ hk.2
  simp only;omega
def zJC (p:Int) (m:List Int) (l:List DDuty) (k:Int):Bool:=decide ((l.length:Int)≤k) || decide ((zIt p m l).2.1≤k)
theorem zJD {p:Int} {m:List Int} {l:List DDuty} {k:Int} (h:zIs p m l=true):zJC p m l k=In (zIt p m l).2.1 0 k:=by
 obtain ⟨h1,h2,_⟩:=zJB h
 rw [zJC,In,Bool.eq_iff_iff]
 simp only [jQ,jJ,decide_eq_true_eq]
 omega
theorem zJE {l l2:List DDuty} (h:zHb (l ++ l2)=true):zHb l=true:=by
 rw [zHb,jJ,decide_eq_true_eq,List.all_eq_true] at h ⊢
 rw [List.length_append] at h
 exact ⟨by omega,fun x hx=>h.2 x (List.mem_append_left _ hx)⟩
theorem zJF {p:Int} {m:List Int} {l l2:List DDuty} {k:Int} (hp:In p 0 2880=true) (hm:zAn m=true) (hd:zHb (l ++ l2)=true) (h:zJC p m (l ++ l2) k=true):zJC p m l k=true:=by
 have c1:zIs p m (l ++ l2)=true:=by rw [zIs,hd,hp,hm];rfl
 have c2:zIs p m l=true:=by rw [zIs,zJE hd,hp,hm];rfl
 rw [zJD c1,In,jJ,decide_eq_true_eq,decide_eq_true_eq] at h
 obtain ⟨a1,a2,a3⟩:=zJB c1
 obtain ⟨b1,b2,b3⟩:=zJB c2
 obtain ⟨h0,g,g1,g2⟩:=(a3 k).1 h.2
 rw [zJD c2,In,jJ,decide_eq_true_eq,decide_eq_true_eq]
 refine ⟨b1,(b3 k).2 ⟨h0,g,fun i hi=>g1 i (by rw [List.length_append];omega),fun i j hi hj hji he=>?_⟩⟩
 have:=g2 i j (by rw [List.length_append];omega) (by rw [List.length_append];omega) hji he
 rw [zIq] at this ⊢
 rw [List.getD_eq_getElem?_getD,List.getD_eq_getElem?_getD,List.getElem?_append_left hi,List.getElem?_append_left hj] at this
 rw [List.getD_eq_getElem?_getD,List.getD_eq_getElem?_getD];exact this
def pilD (c:PChart) (l:List POption):List DDuty:=(l.filter fun o=>decide (0 < o.pas.length)).map fun o=>zD8 c (o.pas.getD 0 dQ) (o.pas.getD (o.pas.length - 1) dQ)
def zJG (x:PHarbour) (l:List POption):Bool:=match zGt x.chart x.fleet (l.flatMap (·.pas)) with
 | none=>false
 | some d=>zJC 0 x.crew.moves d x.crew.tugs && zJC x.crew.rest x.crew.moves (pilD x.chart l) x.crew.pilots
theorem zJH {c:PChart} {f:List DShip}:∀ {l:List POption},(∀ o ∈ l,zJb c f o.pas)→pilL c f (l.map (·.pas))=pilD c l
 | [],_=>rfl
 | o :: l,h=>by
  obtain ⟨h1,h2,h3⟩:=h o (List.mem_cons_self ..)
  have ih:=zJH (l:=l) fun y hy=>h y (List.mem_cons_of_mem _ hy)
  rw [pilL,pilD] at ih ⊢
  rw [List.map_cons,List.filter_cons_of_pos (by simpa using h1),List.filter_cons_of_pos (by simpa using h1),List.map_cons,List.map_cons,ih,zEb h1 h2 h3]
theorem zJI {c:PChart} {f:List DShip} {l:List POption} (h:∀ o ∈ l,zJb c f o.pas):zIS c f (l.map (·.pas)):=fun x hx _=>by
 obtain ⟨o,ho,rfl⟩:=List.mem_map.1 hx
 obtain ⟨h1,h2,h3⟩:=h o ho
 rw [zEb h1 h2 h3]
theorem zJJ {c:PChart} {l:List POption}:(pilD c l).length≤l.length:=by
 rw [pilD,List.length_map];exact List.length_filter_le _ _
theorem zJK {c:PChart} {f:List DShip} {l:List POption} (h:∀ o ∈ l,zJb c f o.pas) (h12:l.length≤12):zHb (pilD c l)=true:=by
 rw [← zJH h]
 refine zIX (zJI h) ?_
 rw [zJH h]
 exact Nat.le_trans zJJ h12
theorem zJL {x:PHarbour} {l:List POption} (hw:zAo x.crew=true) (h:∀ o ∈ l,zJb x.chart x.fleet o.pas) (h12:l.length≤12):zIU x.crew x.chart x.fleet (l.map (·.pas))=zJG x l:=by
 obtain ⟨hr,ht⟩:=zIP hw
 have hfl:(l.map (·.pas)).flatten=l.flatMap (·.pas):=(List.flatMap_def ..).symm
 have hd:=zJK h h12
 have hc2:zIs x.crew.rest x.crew.moves (pilD x.chart l)=true:=by rw [zIs,hd,hr,ht];rfl
 rw [zIU,zJG,hfl,zIO]
 cases hq:zGt x.chart x.fleet (l.flatMap (·.pas)) with
 | none=>simp [In]
 | some d =>
  have hc1:zIs 0 x.crew.moves d=true:=by rw [zIs,zIN hq,ht];rfl
  simp only
  rw [if_pos hw,zJD hc1,zJD hc2,zIT,if_pos ⟨hw,zJI h,by rw [zJH h];exact Nat.le_trans zJJ h12⟩,zJH h]
theorem zJM {x:PHarbour} (hw:zAo x.crew=true):zJG x []=true:=by
 have h:zGt x.chart x.fleet []=some []:=by
  rw [zGt,if_pos ⟨fun i hi=>absurd hi (Nat.not_lt_zero _),Nat.zero_le _⟩];rfl
 rw [zAo] at hw
 simp only [In,jJ,decide_eq_true_eq] at hw
 rw [zJG,show ([]:List POption).flatMap (·.pas)=[] from rfl,h]
 simp only [zJC,jJ,jQ,decide_eq_true_eq]
 exact ⟨.inl (by simp only [List.length_nil];omega),.inl (by show (([]:List DDuty).length:Int)≤_;simp only [List.length_nil];omega)⟩
theorem zJN {x:PHarbour} {l l2:List POption} (hw:zAo x.crew=true) (hg:∀ o ∈ l ++ l2,zJb x.chart x.fleet o.pas) (h12:(l ++ l2).length≤12) (h:zJG x (l ++ l2)=true):zJG x l=true:=by
 obtain ⟨hr,ht⟩:=zIP hw
 have hd:=zJK hg h12
 rw [zJG] at h ⊢
 cases hq:zGt x.chart x.fleet ((l ++ l2).flatMap (·.pas)) with
 | none=>rw [hq] at h;cases h
 | some d =>
  rw [hq] at h
  have hdd:=zIN hq
  simp only [jJ] at h
  rw [zGt] at hq
  split at hq
  ·rename_i hc
   obtain ⟨hc1,hc2⟩:=hc
   obtain rfl:=Option.some.inj hq
   rw [List.flatMap_append] at hc1 hc2 hdd h
   rw [show tugL x.chart x.fleet (l.flatMap (·.pas) ++ l2.flatMap (·.pas))=tugL x.chart x.fleet (l.flatMap (·.pas)) ++ tugL x.chart x.fleet (l2.flatMap (·.pas)) from List.flatMap_append] at hc2 hdd h
   have hs:zGt x.chart x.fleet (l.flatMap (·.pas))=some (tugL x.chart x.fleet (l.flatMap (·.pas))):=by
    have hall:∀ i,i < (l.flatMap (·.pas)).length→pOk x.chart x.fleet (l.flatMap (·.pas)) i=true:=fun i hi=>by
     have:=hc1 i (by rw [List.length_append];omega)
     rw [pOk,List.getD_eq_getElem?_getD,List.getElem?_append_left hi] at this
     rw [pOk,List.getD_eq_getElem?_getD];exact this
    rw [zGt,if_pos ⟨hall,by rw [List.length_append] at hc2;omega⟩]
   rw [hs]
   simp only [jJ]
   have hpd:pilD x.chart (l ++ l2)=pilD x.chart l ++ pilD x.chart l2:=by rw [pilD,List.filter_append,List.map_append];rfl
   rw [hpd] at hd h
   exact ⟨zJF (by decide) ht hdd h.1,zJF hr ht hd h.2⟩
  ·cases hq
theorem zJO (p q:DPassage):Ov p q=Ov q p:=by rw [Ov,Ov,Int.max_comm,Int.min_comm]
theorem zJP (a b g:Int):zA8 a b g=zA8 b a g:=by rw [zA8,zA8,Int.max_comm,Int.min_comm]
theorem zJQ (c:PChart) (r:DRegime) (p q:DPassage):zA9 c r p q=zA9 c r q p:=by
 by_cases hc:p.seg=q.seg∧0≤p.seg∧p.seg < c.segments.length
 ·have hc2:q.seg=p.seg∧0≤q.seg∧q.seg < c.segments.length:=⟨hc.1.symm,by rw [← hc.1];exact hc.2⟩
  rw [zA9,zA9,if_neg (not_not_intro hc),if_neg (not_not_intro hc2),zJO q p,zJP q.start,zJP q.fin,hc.1]
  by_cases hs:p.ship=q.ship
  ·rw [if_pos hs,if_pos hs.symm]
  ·rw [if_neg hs,if_neg (Ne.symm hs)]
   by_cases ht:p.toward=q.toward
   ·rw [if_neg (not_not_intro ht),if_neg (not_not_intro ht.symm)]
    split
    ·rfl
    ·by_cases h4:(p.start < q.start∧q.fin < p.fin)∨(q.start < p.start∧p.fin < q.fin)
     ·rw [if_pos h4,if_pos h4.symm]
     ·rw [if_neg h4,if_neg fun h=>h4 h.symm]
   ·rw [if_pos ht,if_pos (Ne.symm ht)]
 ·have hc2:¬ (q.seg=p.seg∧0≤q.seg∧q.seg < c.segments.length):=fun h=>hc ⟨h.1.symm,by rw [← h.1];exact h.2⟩
  rw [zA9,zA9,if_pos hc,if_pos hc2]
theorem zJR (c:PChart) (r:DRegime) (a b:List DPassage):zBa c r a b=zBa c r b a:=by
 rw [Bool.eq_iff_iff]
 simp only [zBa,List.any_eq_true,decide_eq_true_eq]
 constructor
 ·rintro ⟨p,hp,q,hq,h⟩;exact ⟨q,hq,p,hp,by rw [zJQ];exact h⟩
 ·rintro ⟨p,hp,q,hq,h⟩;exact ⟨q,hq,p,hp,by rw [zJQ];exact h⟩
def zJS (x:PHarbour) (l:List POption) (o:POption):Bool:=!(l.any fun p=>zBa x.chart x.regime p.pas o.pas)
def zJT (x:PHarbour) (l:List POption) (o:POption):Bool:=zJS x l o && zJG x (l ++ [o])
theorem zJU {x:PHarbour} {calls:List DCall} (h:zAP x calls=true):zAo x.crew=true:=by
 rw [zAP,zAp,jJ,jJ,jJ] at h
 exact h.1.1.2
def sumC (l:List POption):Int:=(l.map (·.cost)).sum
abbrev BSt:=Option (List Nat × Int)
def upd (st:BSt) (y:List Nat × Int):BSt:=match st with
 | none=>some y
 | some (b,m)=>if y.2 < m then some y else some (b,m)
def cut (st:BSt) (c:Int):Bool:=match st with
 | none=>false
 | some (_,m)=>decide (m≤c)
def srI (x:PHarbour):List (List POption)→List POption→List Nat→BSt→BSt
 | [],p,ch,st=>if cut st (sumC p)=true then st else some (ch,sumC p)
 | l :: L,p,ch,st=>if cut st (sumC p)=true then st else (List.range l.length).foldl (fun st k=>if zJT x p (l.getD k zFE)=true then srI x L (p ++ [l.getD k zFE]) (ch ++ [k]) st else st) st
def zJV (x:PHarbour):List (List POption)→List POption→List Nat→List (List Nat × Int)
 | [],p,ch=>[(ch,sumC p)]
 | l :: L,p,ch=>(List.range l.length).flatMap fun k=>if zJT x p (l.getD k zFE)=true then zJV x L (p ++ [l.getD k zFE]) (ch ++ [k]) else []
theorem zJW {p:List POption} {o:POption}:sumC (p ++ [o])=sumC p+o.cost:=by
 rw [sumC,List.map_append,List.sum_append];simp [sumC]
theorem zJX {l:List POption} {k:Nat} (hk:k < l.length):l.getD k zFE ∈ l:=by
 rw [List.getD_eq_getElem?_getD,List.getElem?_eq_getElem hk];exact List.getElem_mem hk
theorem zJY {b:List Nat} {m:Int}:∀ {l:List (List Nat × Int)},(∀ y ∈ l,m≤y.2)→l.foldl upd (some (b,m))=some (b,m)
 | [],_=>rfl
 | y :: l,h=>by
  have h1:=h y (List.mem_cons_self ..)
  rw [List.foldl_cons,show upd (some (b,m)) y=some (b,m) by rw [upd,if_neg (by omega)],zJY fun z hz=>h z (List.mem_cons_of_mem _ hz)]
theorem zJZ {α β γ:Type} {f:α→List β} {g:γ→β→γ}:∀ {l:List α} {z:γ},(l.flatMap f).foldl g z=l.foldl (fun z a=>(f a).foldl g z) z
 | [],_=>rfl
 | a :: l,z=>by rw [List.flatMap_cons,List.foldl_append,List.foldl_cons,zJZ]
theorem zJ0 {α γ:Type} {f g:γ→α→γ}:∀ {l:List α} {z:γ},(∀ a ∈ l,∀ z,f z a=g z a)→l.foldl f z=l.foldl g z
 | [],_,_=>rfl
 | a :: l,z,h=>by rw [List.foldl_cons,List.foldl_cons,h a (List.mem_cons_self ..),zJ0 fun b hb=>h b (List.mem_cons_of_mem _ hb)]
theorem zJ1 {x:PHarbour}:∀ {L:List (List POption)} {p:List POption} {ch:List Nat},(∀ l ∈ L,∀ o ∈ l,0≤o.cost)→∀ y ∈ zJV x L p ch,sumC p≤y.2
 | [],p,ch,_,y,hy=>by rw [zJV,List.mem_singleton] at hy;rw [hy];exact Int.le_refl _
 | l :: L,p,ch,h,y,hy=>by
  rw [zJV] at hy
  obtain ⟨k,hk,hy⟩:=List.mem_flatMap.1 hy
  have hk:=List.mem_range.1 hk
  split at hy
  ·have:=zJ1 (fun l hl=>h l (List.mem_cons_of_mem _ hl)) y hy
   have:=h l (List.mem_cons_self ..) _ (zJX hk)
   rw [zJW] at *
   omega
  ·cases hy
theorem zJ2 {x:PHarbour}:∀ {L:List (List POption)} {p:List POption} {ch:List Nat} {st:BSt},(∀ l ∈ L,∀ o ∈ l,0≤o.cost)→srI x L p ch st=(zJV x L p ch).foldl upd st
 | [],p,ch,st,_=>by
  rw [srI,zJV,List.foldl_cons,List.foldl_nil]
  cases st with
  | none=>rfl
  | some s =>
   obtain ⟨b,m⟩:=s
   rw [cut,upd]
   by_cases hm:m≤sumC p
   ·rw [if_pos (decide_eq_true hm),if_neg (by simp only;omega)]
   ·rw [if_neg (by rw [decide_eq_true_eq];exact hm),if_pos (by simp only;omega)]
 | l :: L,p,ch,st,h=>by
  have hge:=zJ1 (x:=x) (p:=p) (ch:=ch) h
  rw [srI]
  split
  ·rename_i hc
   cases st with
   | none=>cases hc
   | some s =>
    obtain ⟨b,m⟩:=s
    have hm:m≤sumC p:=of_decide_eq_true hc
    exact (zJY fun y hy=>Int.le_trans hm (hge y hy)).symm
  ·rw [zJV,zJZ]
   refine zJ0 fun k hk st=>?_
   split
   ·exact zJ2 fun l hl=>h l (List.mem_cons_of_mem _ hl)
   ·rfl
theorem zJ3 (l:List Int):∀ k,k≤l.length→∀ i,i < k→l.getD (zzt l k).toNat 0≤l.getD i 0
 | 0,_,i,hi=>absurd hi (Nat.not_lt_zero i)
 | k+1,hk,i,hi=>by
  simp only [zzt]
  rcases zzu l k with ⟨rfl,h⟩|h
  ·rw [h,if_pos (.inl (by decide)),show i=0 by omega];exact Int.le_refl _
  ·split
   ·rename_i hc
    have hc:l.getD k 0 < l.getD (zzt l k).toNat 0:=by omega
    rw [jW]
    rcases Nat.lt_or_ge i k with hik|hik
    ·have:=zJ3 l k (by omega) i hik;omega
    ·rw [show i=k by omega];exact Int.le_refl _
   ·rename_i hc
    rcases Nat.lt_or_ge i k with hik|hik
    ·exact zJ3 l k (by omega) i hik
    ·rw [show i=k by omega];omega
theorem zJ4 {l:List POption} {o:POption} (ho:o ∈ l):flr l≤o.cost:=by
 obtain ⟨i,hi,rfl⟩:=List.getElem_of_mem ho
 have h1:=zF3 l
 rcases h1 with ⟨h1,_⟩|⟨h1,h2⟩
 ·subst h1;cases hi
 ·rw [flr,if_neg (by omega)]
  have h3:=zJ3 (l.map (·.cost)) l.length (by rw [List.length_map];exact Nat.le_refl _) i hi
  rw [zzv] at h1 h2 ⊢
  generalize (zzt (l.map (·.cost)) l.length)=q at *
  have hq:q.toNat < l.length:=by omega
  rw [List.getD_eq_getElem?_getD,List.getD_eq_getElem?_getD,List.getElem?_map,List.getElem?_map,List.getElem?_eq_getElem hq,List.getElem?_eq_getElem hi] at h3
  rw [List.getD_eq_getElem?_getD,List.getElem?_eq_getElem hq]
  exact h3
def zJ5:List (List POption)→Int
 | []=>0
 | l :: L=>zJ5 L+flr l
noncomputable def srS (x:PHarbour):List (List POption)→List POption→List Nat→BSt→BSt
 | [],p,ch,st=>if cut st (sumC p)=true then st else if zIU x.crew x.chart x.fleet (zJo p)=true then some (ch,sumC p) else st
 | l :: L,p,ch,st=>if cut st (sumC p+zJ5 (l :: L))=true then st else (List.range l.length).foldl (fun st k=>if zJS x p (l.getD k zFE)=true then srS x L (p ++ [l.getD k zFE]) (ch ++ [k]) st else st) st
noncomputable def zJ6 (x:PHarbour):List (List POption)→List POption→List Nat→List (List Nat × Int)
 | [],p,ch=>if zIU x.crew x.chart x.fleet (zJo p)=true then [(ch,sumC p)] else []
 | l :: L,p,ch=>(List.range l.length).flatMap fun k=>if zJS x p (l.getD k zFE)=true then zJ6 x L (p ++ [l.getD k zFE]) (ch ++ [k]) else []
theorem zJ7 {x:PHarbour}:∀ {L:List (List POption)} {p:List POption} {ch:List Nat},∀ y ∈ zJ6 x L p ch,sumC p+zJ5 L≤y.2
 | [],p,ch,y,hy=>by
  rw [zJ6] at hy
  split at hy
  ·rw [List.mem_singleton.1 hy,zJ5];simp
  ·cases hy
 | l :: L,p,ch,y,hy=>by
  rw [zJ6] at hy
  obtain ⟨k,hk,hy⟩:=List.mem_flatMap.1 hy
  have hk:=List.mem_range.1 hk
  split at hy
  ·have h1:=zJ7 y hy
   have h2:=zJ4 (zJX hk)
   rw [zJW] at h1
   rw [zJ5]
   omega
  ·cases hy
theorem zJ8 {x:PHarbour}:∀ {L:List (List POption)} {p:List POption} {ch:List Nat} {st:BSt},srS x L p ch st=(zJ6 x L p ch).foldl upd st
 | [],p,ch,st=>by
  rw [srS,zJ6]
  cases st with
  | none =>
   rw [if_neg (show ¬ cut none (sumC p)=true from Bool.false_ne_true)]
   split <;> rfl
  | some s =>
   obtain ⟨b,m⟩:=s
   rw [cut]
   by_cases hm:m≤sumC p
   ·rw [if_pos (decide_eq_true hm)]
    refine (zJY fun y hy=>?_).symm
    split at hy
    ·rw [List.mem_singleton.1 hy];exact hm
    ·cases hy
   ·rw [if_neg (by rw [decide_eq_true_eq];exact hm)]
    split
    ·rw [List.foldl_cons,List.foldl_nil,upd,if_pos (by simp only;omega)]
    ·rfl
 | l :: L,p,ch,st=>by
  have hge:=zJ7 (x:=x) (L:=l :: L) (p:=p) (ch:=ch)
  rw [srS]
  split
  ·rename_i hc
   cases st with
   | none=>cases hc
   | some s =>
    obtain ⟨b,m⟩:=s
    have hm:m≤sumC p+zJ5 (l :: L):=of_decide_eq_true hc
    exact (zJY fun y hy=>Int.le_trans hm (hge y hy)).symm
  ·rw [zJ6,zJZ]
   refine zJ0 fun k hk st=>?_
   split
   ·exact zJ8
   ·rfl
theorem zJ9 {x:PHarbour} (hw:zAo x.crew=true):∀ {L:List (List POption)} {p:List POption} {ch:List Nat},(∀ o ∈ p,zJb x.chart x.fleet o.pas)→(∀ l ∈ L,∀ o ∈ l,zJb x.chart x.fleet o.pas)→p.length+L.length≤12→zJG x p=false→zJ6 x L p ch=[]
 | [],p,ch,hp,hL,h12,hf=>by
  rw [zJ6,show zJo p=p.map (·.pas) from rfl,zJL hw hp (by rw [List.length_nil] at h12;omega),hf,if_neg Bool.false_ne_true]
 | l :: L,p,ch,hp,hL,h12,hf=>by
  rw [zJ6,List.flatMap_eq_nil_iff]
  intro k hk
  have hk:=List.mem_range.1 hk
  rw [List.length_cons] at h12
  have hg:∀ o ∈ p ++ [l.getD k zFE],zJb x.chart x.fleet o.pas:=fun o ho=>by
   rcases List.mem_append.1 ho with ho|ho
   ·exact hp o ho
   ·rw [List.mem_singleton.1 ho];exact hL l (List.mem_cons_self ..) _ (zJX hk)
  split
  ·refine zJ9 hw hg (fun l hl=>hL l (List.mem_cons_of_mem _ hl)) (by rw [List.length_append,List.length_singleton];omega) ?_
   cases hh:zJG x (p ++ [l.getD k zFE]) with
   | false=>rfl
   | true=>rw [zJN hw hg (by rw [List.length_append,List.length_singleton];omega) hh] at hf;cases hf
  ·rfl
theorem zKa {x:PHarbour} (hw:zAo x.crew=true):∀ {L:List (List POption)} {p:List POption} {ch:List Nat},(∀ o ∈ p,zJb x.chart x.fleet o.pas)→(∀ l ∈ L,∀ o ∈ l,zJb x.chart x.fleet o.pas)→p.length+L.length≤12→zJG x p=true→zJ6 x L p ch=zJV x L p ch
 | [],p,ch,hp,hL,h12,hf=>by
  rw [zJ6,zJV,show zJo p=p.map (·.pas) from rfl,zJL hw hp (by rw [List.length_nil] at h12;omega),hf,if_pos rfl]
 | l :: L,p,ch,hp,hL,h12,hf=>by
  rw [zJ6,zJV]
  rw [List.length_cons] at h12
  have key:∀ k ∈ List.range l.length,(if zJS x p (l.getD k zFE)=true then zJ6 x L (p ++ [l.getD k zFE]) (ch ++ [k]) else [])=(if zJT x p (l.getD k zFE)=true then zJV x L (p ++ [l.getD k zFE]) (ch ++ [k]) else []):=fun k hk=>by
   have hk:=List.mem_range.1 hk
   have hg:∀ o ∈ p ++ [l.getD k zFE],zJb x.chart x.fleet o.pas:=fun o ho=>by
    rcases List.mem_append.1 ho with ho|ho
    ·exact hp o ho
    ·rw [List.mem_singleton.1 ho];exact hL l (List.mem_cons_self ..) _ (zJX hk)
   have h13:(p ++ [l.getD k zFE]).length+L.length≤12:=by rw [List.length_append,List.length_singleton];omega
   have hL2:∀ l ∈ L,∀ o ∈ l,zJb x.chart x.fleet o.pas:=fun l hl=>hL l (List.mem_cons_of_mem _ hl)
   rw [zJT]
   cases hh:zJG x (p ++ [l.getD k zFE]) with
   | false =>
    rw [Bool.and_false,if_neg Bool.false_ne_true,zJ9 hw hg hL2 h13 hh]
    split <;> rfl
   | true=>rw [Bool.and_true,zKa hw hg hL2 h13 hh]
  rw [List.flatMap_def,List.flatMap_def,List.map_congr_left key]
theorem zKb {x:PHarbour}:∀ {L:List (List POption)} {p:List POption} {ch:List Nat},[] ∈ L→zJV x L p ch=[]
 | l :: L,p,ch,h=>by
  rw [zJV]
  rcases List.mem_cons.1 h with h|h
  ·rw [← h];rfl
  ·rw [List.flatMap_eq_nil_iff]
   intro k hk
   split
   ·exact zKb h
   ·rfl
noncomputable def zKc (x:PHarbour) (L:List (List POption)):BSt:=open Classical in if [] ∈ L then none else srS x L [] [] none
theorem zKd {x:PHarbour} {L:List (List POption)} (hw:zAo x.crew=true) (hL:∀ l ∈ L,∀ o ∈ l,zJb x.chart x.fleet o.pas) (hc:∀ l ∈ L,∀ o ∈ l,0≤o.cost) (h12:L.length≤12):zKc x L=srI x L [] [] none:=by
 rw [zKc,zJ2 hc]
 split
 ·rename_i h;rw [zKb h];rfl
 ·rw [zJ8,zKa hw (fun o ho=>by cases ho) hL (by simpa using h12) (zJM hw)]
def zKe (r:BSt):List Int × Int × Bool:=match r with
 | none=>([],0,false)
 | some (w,c)=>(zs w,c,true)
def zKf (x:PHarbour) (calls:List DCall):List Int × Int × Bool:=if zAP x calls=true then zKe (srI x (zJu x calls) [] [] none) else ([],0,false)
theorem zKg (p:Int) (m:Sl Int) (d:Sl DDuty) (k:Int) (h:Hp) (hm:m.Ok h) (hd:d.Ok h):Ct jV 210 [.int .i64 p,m.val,d.val,.int .i64 k] h fun v h'=>v=.bool (zJC p m.l d.l k)∧h'=h:=by
 have hl:=hd.max
 refine Ct.forget ?_
 refine zdn (fun A W=>by simp) Tryz.func210 rfl rfl (by simp) fun W0=>?_
 refine Wk ?_
 refine zc9 rfl (fun hq=>?_) (fun hq=>?_)
 ·refine Wk ?_
  rw [zJC,decide_eq_true (of_decide_eq_true hq)];rfl
 ·refine Wk ?_
  refine zkr (zIG p m d _ hm hd) rfl ?_
  rintro v h2 le2 ⟨s2,rfl,e2,ok2,m2⟩
  refine Wk ?_
  rw [zJC,decide_eq_false (p:=(d.l.length:Int)≤k) (of_decide_eq_false hq),Bool.false_or];rfl
theorem zKh (a:Sl DOption) (h:Hp) (ha:a.Ok h) (hz:a.l.length≤1048576):Ct jV 159 [a.val] h fun v h'=>∃ s:Sl DOption,v=s.val∧s.l=a.l∧RowAt 149 h' s∧∀ g,s.a=some ⟨g,0,none⟩→h g=none:=by
 have hall:=ha.all (by decide)
 have hd:(h.ldL a.val 4).isSome=true:=by rw [show h.ldL a.val 4=_ from hall];rfl
 refine zdn (fun A W=>by simp) Tryz.func159 rfl rfl (by simp) fun W0=>?_
 repeat' first|refine Wa ?_|(simp only [go_sem,jq,jj,jy,jv,jk,jx,hall,show h.ldL a.val 4=some (a.l.flatMap Enc.enc) from hall,Option.isSome_some,Option.getD_some];try rfl)|refine Wb ?_|fail
 refine ⟨by simp only [maxLen];omega,by omega,?_⟩
 repeat' first|refine Wa ?_|(simp only [go_sem,jq,jj,jy,jv,jk,jx,hall,show h.ldL a.val 4=some (a.l.flatMap Enc.enc) from hall,Option.isSome_some,Option.getD_some];try rfl)|refine Wb ?_|fail
 refine ⟨fun u hu=>by obtain ⟨x,_,hx⟩:=List.mem_flatMap.1 hu;exact Enc.one x u hx,by simp only [maxLen];omega,by omega,?_⟩
 refine zCP 1 a.l rfl rfl (Nat.zero_add _) rfl fun s h' e1 R f1 l1 k1=>?_
 refine Wk ?_
 exact ⟨s,rfl,e1,R,f1⟩
theorem zKi {l:List DOption}:(l.map (Con.con (α:=DOption))).flatMap (·.pas)=l.flatMap (·.pas.l):=by
 rw [List.flatMap_map,List.flatMap_def,List.flatMap_def]
 exact congrArg List.flatten (List.map_congr_left fun o _=>zEf _)
theorem zKj {o:DOption}:(Con.con o).pas=o.pas.l:=zEf _
theorem zKk {c:PChart} {l:List POption} {o:POption} (h:0 < o.pas.length):pilD c (l ++ [o])=pilD c l ++ [zD8 c (o.pas.getD 0 dQ) (o.pas.getD (o.pas.length - 1) dQ)]:=by
 rw [pilD,List.filter_append,List.map_append]
 simp [pilD,h]
theorem zKl {c:DChart} {l:List DOption} {h:Hp} {f:List DShip} (hc:Enc.ok h c) (hl:∀ o ∈ l,Enc.ok h o) (hg:∀ o ∈ l,zJb (Con.con c) f o.pas.l):∀ d ∈ pilD (Con.con c) (l.map Con.con),Enc.ok h d:=fun d hd=>by
 obtain ⟨y,hy,rfl⟩:=List.mem_map.1 hd
 obtain ⟨o,ho,rfl⟩:=List.mem_map.1 (List.mem_filter.1 hy).1
 obtain ⟨h1,h2,h3⟩:=hg o ho
 have:=zEg (f:=f) (h2:=h) hc (hl o ho).2.2.2
 rw [zEf,zEb h1 h2 h3] at this
 rw [zKj]
 exact this
set_option maxRecDepth 30000 in
theorem zKm (x:DHarbour) (a:Sl DOption) (h:Hp) (hx:Enc.ok h x) (ha:a.Ok h) (hg:∀ o ∈ a.l,zJb (Con.con x.chart) x.fleet.l o.pas.l) (hz:(a.l.flatMap (·.pas.l)).length≤1048576) (hz2:a.l.length≤1048576):Ct jV 158 [x.v,a.val] h fun v h'=>v=.bool (zJG (Con.con x) (a.l.map Con.con))∧h'=h:=by
 have hl:=ha.max
 refine Ct.forget ?_
 refine zdn (fun A W=>by simp) Tryz.func158 rfl rfl (by simp) fun W0=>?_
 refine Wk ?_
 refine zm1 (ι:=Nat) (fun k=>⟨[(2,true,.c (.p 0 0)),(4,true,.c (.v (.bool false))),(5,true,.c (.s 1)),(6,true,.c (.s 2)),(13,true,.c (.v a.val)),(14,true,.c (.v (.int .i64 a.l.length))),(15,true,.c (.v (.int .i64 k)))],[(0,.box 58 [.v (.int .i64 x.forecast.tide.mean),.v x.forecast.tide.parts.val,.v x.forecast.surges.val,.v x.chart.points.val,.v x.chart.segments.val,.v x.fleet.val,.v (.int .i64 x.regime.gap),.v (.bool x.regime.noMeet),.v (.int .i64 x.crew.tugs),.v (.int .i64 x.crew.pilots),.v (.int .i64 x.crew.rest),.v x.crew.moves.val]),(1,.row 154 5 ((a.l.take k).flatMap (·.pas.l)).length (((a.l.take k).flatMap (·.pas.l)).flatMap Enc.enc)),(2,.row 265 4 (pilD (Con.con x.chart) ((a.l.take k).map Con.con)).length ((pilD (Con.con x.chart) ((a.l.take k).map Con.con)).flatMap Enc.enc))],h,3⟩) (fun k=>k≤a.l.length) (fun k=>a.l.length - k) 0 (Nat.zero_le _) [0,1,2] ?_ ?_
 ·refine Evs ?_
  exact Gk
 intro k hk
 refine Wk ?_
 refine zc9 rfl (fun hd=>?_) (fun hd=>?_)
 ·have hlt:=zjH hd
  have hok:=ha.el hlt
  have hop:a.l[k].pas.Ok h:=hok.2.2.2
  have hall:h.ldL a.l[k].pas.val 5=some (a.l[k].pas.l.flatMap Enc.enc):=Sl.Ok.all hop (by decide)
  have hfl:(a.l.take (k+1)).flatMap (·.pas.l)=(a.l.take k).flatMap (·.pas.l) ++ a.l[k].pas.l:=by rw [List.take_succ_eq_append_getElem hlt,List.flatMap_append];simp
  have hle:((a.l.take (k+1)).flatMap (·.pas.l)).length≤(a.l.flatMap (·.pas.l)).length:=by
   rw [← List.take_append_drop (k+1) a.l,List.flatMap_append,List.take_append_drop,List.length_append];omega
  rw [hfl,List.length_append] at hle
  obtain ⟨h0,hC,hP⟩:=hg _ (List.getElem_mem hlt)
  have hpm:=hop.max
  have hpl:=zJJ (c:=Con.con x.chart) (l:=(a.l.take k).map Con.con)
  rw [List.length_map,List.length_take] at hpl
  repeat' first|refine Wa ?_|(simp only [go_sem,jq,jj,jy,jv,jk,jx,zkZ ha hlt,ha.some hlt,hlt,jW];try rfl)|refine Wb ?_|fail
  simp only [hall,Option.isSome_some,Option.getD_some,← hfl,← List.flatMap_append,← List.length_append]
  refine ⟨trivial,fun u hu=>zI5 hu,by simp only [maxLen];rw [hfl,List.length_append];omega,by rw [hfl,List.length_append];omega,?_⟩
  refine Wk ?_
  refine zc9 rfl (fun hq=>?_) (fun hq=>?_)
  case refine_2=>exact absurd (of_decide_eq_false hq) (by omega)
  have hn1:a.l[k].pas.l.length - 1 < a.l[k].pas.l.length:=by omega
  have hwn:IntKind.i64.wrap ((a.l[k].pas.l.length:Int) - 1)=((a.l[k].pas.l.length - 1:Nat):Int):=by rw [zjz (by omega)];omega
  obtain ⟨g1,g2⟩:=zEc hC h0
  obtain ⟨g3,g4⟩:=zEc hC hn1
  have h0i:(0:Int) < a.l[k].pas.l.length:=by omega
  have ha0:=Sl.Ok.some hop h0
  have hs0:=zkV hop h0
  have hs1:=zmP hop h0
  simp only [go_sem,Nat.zero_mul] at hs0 hs1
  refine Wk ?_
  refine zyW rfl ?_
  refine U_t [0,1,3,7,9,2,4,8,10,5,11,6,12,13,14] rfl ?_
  simp only [go_sem,jq,jj,jy,jv,jk,jx,ha0,hs0,hs1,h0i,Int.toNat_zero,Nat.zero_mul,Int.le_refl,implies_true,true_and,and_true,zkV hop hn1,Sl.Ok.some hop hn1,hn1,jW,hwn,zkZ ha hlt,ha.some hlt,hlt]
  refine U_1 15 0 [] rfl rfl ?_
  simp only [go_sem,jq,jj,jy,jv,jk,jx,ha0,hs0,hs1,h0i,Int.toNat_zero,Nat.zero_mul,Int.le_refl,implies_true,true_and,and_true,zkV hop hn1,Sl.Ok.some hop hn1,hn1,jW,hwn,zkZ ha hlt,ha.some hlt,hlt]
  refine zhF (fun _=>zEd x.chart _ _ _ hx.2.1 g1 g2 g3 g4) ?_
  simp only [go_sem,jq,jj,jy,jv,jk,jx,ha0,hs0,hs1,h0i,Int.toNat_zero,Nat.zero_mul,Int.le_refl,implies_true,true_and,and_true,zkV hop hn1,Sl.Ok.some hop hn1,hn1,jW,hwn,zkZ ha hlt,ha.some hlt,hlt]
  refine U_1 16 0 [] rfl rfl ?_
  simp only [go_sem,jq,jj,jy,jv,jk,jx,ha0,hs0,hs1,h0i,Int.toNat_zero,Nat.zero_mul,Int.le_refl,implies_true,true_and,and_true,zkV hop hn1,Sl.Ok.some hop hn1,hn1,jW,hwn,zkZ ha hlt,ha.some hlt,hlt]
  refine U_1 17 0 [] rfl rfl ?_
  simp only [go_sem,jq,jj,jy,jv,jk,jx,ha0,hs0,hs1,h0i,Int.toNat_zero,Nat.zero_mul,Int.le_refl,implies_true,true_and,and_true,zkV hop hn1,Sl.Ok.some hop hn1,hn1,jW,hwn,zkZ ha hlt,ha.some hlt,hlt]
  refine ⟨by simp only [maxLen];omega,by omega,?_⟩
  refine U_t [18] rfl ?_
  simp only [go_sem,jq,jj,jy,jv,jk,jx,ha0,hs0,hs1,h0i,Int.toNat_zero,Nat.zero_mul,Int.le_refl,implies_true,true_and,and_true,zkV hop hn1,Sl.Ok.some hop hn1,hn1,jW,hwn,zkZ ha hlt,ha.some hlt,hlt]
  refine U_d ?_
  refine Wk ?_
  have hpd:pilD (Con.con x.chart) ((a.l.take (k+1)).map Con.con)=pilD (Con.con x.chart) ((a.l.take k).map Con.con) ++ [zD8 (Con.con x.chart) a.l[k].pas.l[0] a.l[k].pas.l[a.l[k].pas.l.length - 1]]:=by
   rw [List.take_succ_eq_append_getElem hlt,List.map_append,List.map_cons,List.map_nil,zKk (by rw [zKj];exact h0),zKj]
   simp [List.getD_eq_getElem?_getD,h0,hn1]
  refine ⟨k+1,[0,4,6],hlt,by omega,?_⟩
  refine Evs ?_
  rw [hpd,List.flatMap_append,List.length_append]
  exact Gi (zjA hlt (by omega))
 ·have hge:=zjI hd
  have hke:k=a.l.length:=by omega
  rw [hke,List.take_length]
  refine zc6 ?_
  refine Evs ?_
  refine zl5 1 (a.l.flatMap (·.pas.l)) rfl rfl rfl rfl (by decide) (fun y hy=>?_) h (Hp.le_refl _) (Mines.flat (fun _=>rfl) (fun _=>trivial)) fun s h' e1 e2 e3 e4=>?_
  ·obtain ⟨z,hz,hy⟩:=List.mem_flatMap.1 hy
   exact (ha.2.2.2.1 z hz).2.2.2.2.2.2.1 y hy
  have hx1:Enc.ok h' x:=Enc.mono e3 hx
  refine zl5 2 (pilD (Con.con x.chart) (a.l.map Con.con)) rfl rfl rfl rfl (by decide) (zKl hx1.2.1 (fun o ho=>Enc.mono e3 (ha.2.2.2.1 o ho)) hg) h e3 (Mines.flat (fun _=>rfl) (fun _=>trivial)) fun d h2 d1 d2 d3 d4=>?_
  have hx2:Enc.ok h2 x:=Enc.mono d3 hx1
  refine Wk ?_
  refine zkr (zGD x.chart x.fleet s _ hx2.2.1 hx2.2.2.1 (e2.mono d3)) rfl ?_
  rintro v h3 le3 ⟨t,rfl,et,okt,mt⟩
  have hx3:Enc.ok h3 x:=Enc.mono le3 hx2
  have hfc:zGt (Con.con x).chart (Con.con x).fleet ((a.l.map Con.con).flatMap (·.pas))=zGt (Con.con x.chart) x.fleet.l s.l:=by
   rw [zKi,e1,show (Con.con x).fleet=x.fleet.l from zz2 _];rfl
  have hcw:(Con.con x).crew.moves=x.crew.moves.l:=zIQ x.crew
  have okd:=d2.mono le3
  rw [zJG,hfc,hcw]
  cases htd:zGt (Con.con x.chart) x.fleet.l s.l with
  | none =>
   refine Evs ?_
   refine Wk ?_
   refine zhF (V:=.bool false) (fun e=>by cases e) ?_
   refine Evs ?_
   refine Wk ?_
   refine zhF (V:=.bool false) (fun e=>by cases e) ?_
   refine Evs ?_
   exact Wk0
  | some dl =>
   rw [htd] at et
   have et:t.l=dl:=et
   refine Evs ?_
   refine Wk ?_
   refine zhF (fun _=>zKg 0 x.crew.moves t x.crew.tugs _ hx3.2.2.2.2.2.2.2 okt) ?_
   refine Evs ?_
   refine Wk ?_
   refine zhF (fun _=>zKg x.crew.rest x.crew.moves d x.crew.pilots _ hx3.2.2.2.2.2.2.2 okd) ?_
   refine Evs ?_
   refine Wk ?_
   rw [et,d1];rfl
theorem zKn {x:DHarbour} {l:List DOption} {o:DOption}:zJS (Con.con x) (l.map Con.con) (Con.con o)=!(l.any fun p=>zBa (Con.con x.chart) x.regime p.pas.l o.pas.l):=by
 rw [zJS,List.any_map]
 congr 2
 funext p
 simp only [Function.comp,zKj]
 rfl
theorem zKo {α:Type} {f:α→Bool} {l:List α} {k:Nat} (hk:k < l.length) (h0:(l.take k).any f=false) (h1:f l[k]=false):(l.take (k+1)).any f=false:=by
 rw [zBb hk,h0,h1];rfl
set_option maxRecDepth 30000 in
theorem zKp (x:DHarbour) (a:Sl DOption) (o:DOption) (h:Hp) (hx:Enc.ok h x) (ha:a.Ok h) (ho:Enc.ok h o) (hr:zAm x.regime=true) (hg:∀ p ∈ a.l ++ [o],zJb (Con.con x.chart) x.fleet.l p.pas.l) (hz:((a.l ++ [o]).flatMap (·.pas.l)).length≤1048576) (hz2:a.l.length≤1000):Ct jV 106 [x.v,a.val,o.v] h fun v h'=>v=.bool (zJT (Con.con x) (a.l.map Con.con) (Con.con o))∧h'=h:=by
 have hl:=ha.max
 refine Ct.forget ?_
 refine zdn (fun A W=>by simp) Tryz.func106 rfl rfl (by simp) fun W0=>?_
 refine Wk ?_
 refine zm1 (ι:=Nat) (fun k=>⟨[(1,true,.c (.v a.val)),(3,true,.c (.p 0 0)),(5,true,.c (.p 1 0)),(6,true,.c (.v (.bool false))),(9,true,.c (.v a.val)),(10,true,.c (.v (.int .i64 a.l.length))),(11,true,.c (.v (.int .i64 k)))],[(0,.box 58 [.v (.int .i64 x.forecast.tide.mean),.v x.forecast.tide.parts.val,.v x.forecast.surges.val,.v x.chart.points.val,.v x.chart.segments.val,.v x.fleet.val,.v (.int .i64 x.regime.gap),.v (.bool x.regime.noMeet),.v (.int .i64 x.crew.tugs),.v (.int .i64 x.crew.pilots),.v (.int .i64 x.crew.rest),.v x.crew.moves.val]),(1,.box 149 [.v (.int .i64 o.start),.v (.int .i64 o.arr),.v (.int .i64 o.cost),.v o.pas.val])],h,2⟩) (fun k=>k≤a.l.length∧((a.l.take k).any fun p=>zBa (Con.con x.chart) x.regime p.pas.l o.pas.l)=false) (fun k=>a.l.length - k) 0 ⟨Nat.zero_le _,rfl⟩ [0,1] ?_ ?_
 ·refine Evs ?_
  exact Gk
 rintro k ⟨hk,hno⟩
 refine Wk ?_
 refine zc9 rfl (fun hd=>?_) (fun hd=>?_)
 ·have hlt:=zjH hd
  repeat' first|refine Wa ?_|refine zhF (fun _=>zGe x.chart x.regime a.l[k].pas o.pas _ hx.2.1 hr (ha.el hlt).2.2.2 ho.2.2.2) ?_|(simp only [go_sem,jq,jj,jy,jv,jk,jx,zkZ ha hlt,ha.some hlt,hlt,jW];try rfl)|refine Wb ?_|fail
  refine zc9 rfl (fun hq=>?_) (fun hq=>?_)
  ·refine Wk ?_
   rw [zJT,zKn,zBc (f:=fun p=>zBa (Con.con x.chart) x.regime p.pas.l o.pas.l) hlt hq]
   rfl
  ·refine Wk ?_
   refine ⟨k+1,[0,1],⟨hlt,zKo hlt hno hq⟩,by omega,?_⟩
   refine Evs ?_
   exact Gi (zjA hlt (by omega))
 ·have hge:=zjI hd
  have hke:k=a.l.length:=by omega
  rw [hke,List.take_length] at hno
  refine zc6 ?_
  refine Evs ?_
  refine zc3 ?_
  refine zyW rfl ?_
  refine U_t [0,1,3] rfl ?_
  refine Evs ?_
  refine U_m 2 [4] ⟨?_,?_,trivial⟩
  ·refine U_b 2 0 [3,0] rfl rfl ?_
   refine Evs ?_
   refine zkr (zKh a _ ha (by omega)) rfl ?_
   rintro v h1 le1 ⟨q,rfl,eq1,Rq,fq⟩
   refine Evs ?_
   refine U_1 4 0 [0] rfl rfl ?_
   refine Evs ?_
   refine U_1 5 3 [0] rfl rfl ?_
   refine Evs ?_
   refine zCQ (s:=q) rfl Rq (fun g hg=>.inl (fq g hg)) ?_
   refine Evs ?_
   refine ⟨rfl,by rw [eq1];simp only [maxLen];omega,by rw [eq1];omega,fun ad cap h2 P=>?_⟩
   have P':Pub (zCO h1 q) 149 (Enc.size DOption) (q.l ++ [o]).length ((q.l ++ [o]).flatMap Enc.enc) ad cap h2:=by
    rw [List.length_append,List.flatMap_append];exact P
   have led:h.le (zCO h1 q):=zCR le1 fq Rq.addr
   have k2:(Sl.mk ad cap (q.l ++ [o])).Ok h2:=Pub.sl (by decide) P' fun y hy=>by
    rcases List.mem_append.1 hy with hy|hy
    ·exact Enc.mono led (ha.2.2.2.1 y (by rw [← eq1];exact hy))
    ·rw [List.mem_singleton.1 hy];exact Enc.mono led ho
   have le2:h.le h2:=Hp.le_trans led P'.le
   rw [show Value.slice ad (q.l.length+1) cap=(Sl.mk ad cap (q.l ++ [o])).val from by simp only [Sl.val,List.length_append,List.length_singleton]]
   try simp only [go_sem,jq,jj,jy,jv,jk,jx]
   refine U_1 6 0 [] rfl rfl ?_
   refine Evs ?_
   refine zhF (fun _=>zKm x ⟨ad,cap,q.l ++ [o]⟩ _ (Enc.mono le2 hx) k2 (by rw [eq1];exact hg) (by rw [eq1];exact hz) (by rw [eq1,List.length_append,List.length_singleton];omega)) ?_
   try simp only [go_sem,jq,jj,jy,jv,jk,jx]
   rw [eq1,List.map_append]
   refine U_t [7] rfl ?_
   refine Evs ?_
   refine U_d ?_
   refine Wk ?_
   rw [zJT,zKn,hno]
   rfl
  ·refine U_b 4 0 [0] rfl rfl ?_
   refine Evs ?_
   refine U_1 2 0 [0] rfl rfl ?_
   refine Evs ?_
   refine zkr (zKh a _ ha (by omega)) rfl ?_
   rintro v h1 le1 ⟨q,rfl,eq1,Rq,fq⟩
   refine Evs ?_
   refine U_1 5 3 [0] rfl rfl ?_
   refine Evs ?_
   refine zCQ (s:=q) rfl Rq (fun g hg=>.inl (fq g hg)) ?_
   refine Evs ?_
   refine ⟨rfl,by rw [eq1];simp only [maxLen];omega,by rw [eq1];omega,fun ad cap h2 P=>?_⟩
   have P':Pub (zCO h1 q) 149 (Enc.size DOption) (q.l ++ [o]).length ((q.l ++ [o]).flatMap Enc.enc) ad cap h2:=by
    rw [List.length_append,List.flatMap_append];exact P
   have led:h.le (zCO h1 q):=zCR le1 fq Rq.addr
   have k2:(Sl.mk ad cap (q.l ++ [o])).Ok h2:=Pub.sl (by decide) P' fun y hy=>by
    rcases List.mem_append.1 hy with hy|hy
    ·exact Enc.mono led (ha.2.2.2.1 y (by rw [← eq1];exact hy))
    ·rw [List.mem_singleton.1 hy];exact Enc.mono led ho
   have le2:h.le h2:=Hp.le_trans led P'.le
   rw [show Value.slice ad (q.l.length+1) cap=(Sl.mk ad cap (q.l ++ [o])).val from by simp only [Sl.val,List.length_append,List.length_singleton]]
   try simp only [go_sem,jq,jj,jy,jv,jk,jx]
   refine U_1 6 0 [] rfl rfl ?_
   refine Evs ?_
   refine zhF (fun _=>zKm x ⟨ad,cap,q.l ++ [o]⟩ _ (Enc.mono le2 hx) k2 (by rw [eq1];exact hg) (by rw [eq1];exact hz) (by rw [eq1,List.length_append,List.length_singleton];omega)) ?_
   try simp only [go_sem,jq,jj,jy,jv,jk,jx]
   rw [eq1,List.map_append]
   refine U_t [7] rfl ?_
   refine Evs ?_
   refine U_d ?_
   refine Wk ?_
   rw [zJT,zKn,hno]
   rfl
theorem zKq {x:PHarbour} {calls:List DCall} (h:zAP x calls=true):zAm x.regime=true∧zz9 x.chart=true:=by
 rw [zAP,zAp] at h
 simp only [jJ] at h
 exact ⟨h.1.1.1.2,h.1.1.1.1.1.2⟩
def srW (x:PHarbour) (w:List POption→Int):List (List POption)→List POption→List Nat→BSt→BSt
 | [],p,ch,st=>if cut st (w p)=true then st else some (ch,w p)
 | l :: L,p,ch,st=>if cut st (w p)=true then st else (List.range l.length).foldl (fun st k=>if zJT x p (l.getD k zFE)=true then srW x w L (p ++ [l.getD k zFE]) (ch ++ [k]) st else st) st
theorem zKr {p:List POption} (h6:p.length≤6) (hc:∀ o ∈ p,0≤o.cost∧o.cost≤2880):zzp p=sumC p:=by
 have key:∀ (p:List POption) (z:Int),(∀ o ∈ p,0≤o.cost∧o.cost≤2880)→0≤z→z+2880 * (p.length:Int)≤1000000→p.foldl (fun t o=>IntKind.i64.wrap (t+o.cost)) z=z+sumC p:=by
  intro p
  induction p with
  | nil=>intro z _ _ _;simp [sumC]
  | cons o p ih =>
   intro z hc h0 h1
   obtain ⟨c0,c1⟩:=hc o (List.mem_cons_self ..)
   rw [List.length_cons] at h1
   rw [List.foldl_cons,zjz (by omega),ih _ (fun y hy=>hc y (List.mem_cons_of_mem _ hy)) (by omega) (by push_cast at h1;omega)]
   simp only [sumC,List.map_cons,List.sum_cons]
   omega
 rw [zzp,key p 0 hc (Int.le_refl _) (by omega)]
 omega
theorem zKs {x:PHarbour}:∀ {L:List (List POption)} {p:List POption} {ch:List Nat} {st:BSt},p.length+L.length≤6→(∀ o ∈ p,0≤o.cost∧o.cost≤2880)→(∀ l ∈ L,∀ o ∈ l,0≤o.cost∧o.cost≤2880)→srW x zzp L p ch st=srI x L p ch st
 | [],p,ch,st,h6,hp,_=>by rw [srW,srI,zKr (by simpa using h6) hp]
 | l :: L,p,ch,st,h6,hp,hL=>by
  rw [List.length_cons] at h6
  rw [srW,srI,zKr (by omega) hp]
  split
  ·rfl
  ·refine zJ0 fun k hk st=>?_
   have hk:=List.mem_range.1 hk
   split
   ·refine zKs (by rw [List.length_append,List.length_singleton];omega) (fun o ho=>?_) fun l hl=>hL l (List.mem_cons_of_mem _ hl)
    rcases List.mem_append.1 ho with ho|ho
    ·exact hp o ho
    ·rw [List.mem_singleton.1 ho];exact hL l (List.mem_cons_self ..) _ (zJX hk)
   ·rfl
def BS (st:BSt) (be:Sl Int) (m0 m1:Int) (fo:Bool):Prop:=match st with
 | none=>fo=false∧be.l=[]∧m0=0∧m1=0
 | some (w,c)=>fo=true∧be.l=zs w∧m0=c∧m1=0
def zKt (a0 a1 b0 b1:Int):Bool:=decide (a0 < b0) || (decide (a0=b0) && decide (a1 < b1))
theorem zKu {st:BSt} {be:Sl Int} {m0 m1 c:Int} {fo:Bool} (h:BS st be m0 m1 fo):(fo && !zKt c 0 m0 m1)=cut st c:=by
 cases st with
 | none=>rw [show fo=false from h.1];rfl
 | some s =>
  obtain ⟨w',c'⟩:=s
  obtain ⟨rfl,-,rfl,rfl⟩:=h
  rw [cut,zKt,Bool.eq_iff_iff]
  simp only [Bool.true_and,Bool.not_eq_true',jp,Bool.and_eq_false_iff,decide_eq_false_iff_not,decide_eq_true_eq]
  omega
def RowF {α:Type} [Enc α] (e:TypeId) (hb h:Hp) (b:Nat) (s:Sl α):Prop:=RowAt e h s∧∀ g,s.a=some ⟨g,0,none⟩→hb g=none∧g ≠ b
def Apart {α β:Type} (s:Sl α) (t:Sl β):Prop:=∀ g,s.a=some ⟨g,0,none⟩→t.a ≠ some ⟨g,0,none⟩
theorem Apart.symm {α β:Type} {s:Sl α} {t:Sl β} (H:Apart s t):Apart t s:=fun g h1 h2=>H g h2 h1
theorem zKv {α:Type} [Enc α] {e:TypeId} {h h2:Hp} {s:Sl α} (H:RowAt e h s) (hle:h.le h2):RowAt e h2 s:=H.keep fun g hg=>by
 cases hh:h g with
 | none=>exact (zIm H hg hh).elim
 | some o=>exact hle g o hh
theorem RowF.grow {α:Type} [Enc α] {e:TypeId} {hb h h2:Hp} {b:Nat} {s:Sl α} (H:RowF e hb h b s) (hle:h.le h2):RowF e hb h2 b s:=⟨zKv H.1 hle,H.2⟩
theorem RowF.ins {α:Type} [Enc α] {e:TypeId} {hb h:Hp} {b:Nat} {s:Sl α} {o:Obj} (H:RowF e hb h b s):RowF e hb (h.ins b o) b s:=⟨H.1.keep fun g hg=>Hp.ins_ne (H.2 g hg).2,H.2⟩
theorem RowF.cut {α:Type} [Enc α] {e:TypeId} {hb h:Hp} {b:Nat} {s:Sl α} {k:Nat} (H:RowF e hb h b s) (hk:k≤s.l.length):RowF e hb h b (s.to k):=⟨zIk H.1 hk,H.2⟩
theorem zKw {α:Type} [Enc α] {e:TypeId} {hb h h2:Hp} {b:Nat} {s:Sl α} {l:List α} {ad:Option Addr} {cap:Nat} (hle:hb.le h) (hbn:h b ≠ none) (R:RowF e hb h b s) (P:Pub (zCO h s) e (Enc.size α) l.length (l.flatMap Enc.enc) ad cap h2) :
  hb.le h2∧h2 b=h b∧RowF e hb h2 b (Sl.mk ad cap l)∧∀ {β:Type} [Enc β] {e':TypeId} {t:Sl β},RowF e' hb h b t→Apart s t→RowF e' hb h2 b t∧Apart (Sl.mk ad cap l) t:=by
 obtain ⟨R1,F1⟩:=R
 obtain ⟨p1,p2,p3⟩:=zIl R1 P
 have fr:∀ g,ad=some ⟨g,0,none⟩→hb g=none∧g ≠ b:=fun g hg=>by
  rcases p2 g hg with x|x
  ·refine ⟨?_,fun e=>hbn (by rw [← e];exact x)⟩
   cases hh:hb g with
   | none=>rfl
   | some o=>rw [hle g o hh] at x;cases x
  ·exact F1 g x
 refine ⟨fun k o hk=>?_,p3 b (fun g hg e=>(fr g hg).2 e.symm) (fun g hg e=>(F1 g hg).2 e.symm),⟨p1,fr⟩,fun {β} _ {e'} {t} Rt A=>?_⟩
 ·rw [p3 k (fun g hg e=>by subst e;rw [(fr _ hg).1] at hk;cases hk) (fun g hg e=>by subst e;rw [(F1 _ hg).1] at hk;cases hk)]
  exact hle k o hk
 ·have no:∀ g,ad=some ⟨g,0,none⟩→t.a ≠ some ⟨g,0,none⟩:=fun g hg ht=>by
   rcases p2 g hg with x|x
   ·exact zIm Rt.1 ht x
   ·exact A g x ht
  refine ⟨⟨Rt.1.keep fun g hg=>p3 g (fun g' hg' e=>?_) (fun g' hg' e=>?_),Rt.2⟩,no⟩
  ·subst e;exact no _ hg' hg
  ·subst e;exact A _ hg' hg
def plC (x:DHarbour) (L:Sl (Sl DOption)) (wf:Value) (p:Sl DOption) (ch be:Sl Int) (m0 m1:Int) (fo:Bool):List Value:=[.int .i64 x.forecast.tide.mean,x.forecast.tide.parts.val,x.forecast.surges.val,x.chart.points.val,x.chart.segments.val,x.fleet.val,.int .i64 x.regime.gap,.bool x.regime.noMeet,.int .i64 x.crew.tugs,.int .i64 x.crew.pilots,.int .i64 x.crew.rest,x.crew.moves.val,L.val,wf,p.val,ch.val,be.val,.int .i64 m0,.int .i64 m1,.bool fo]
structure PV (hb h:Hp) (b:Nat) (x:DHarbour) (L:Sl (Sl DOption)) (wf:Value) (p:Sl DOption) (ch be:Sl Int) (m0 m1:Int) (fo:Bool):Prop where
 le:hb.le h
 ox:Enc.ok hb x
 oL:L.Ok hb
 nb:hb b=none
 bx:h b=some (.cells (plC x L wf p ch be m0 m1 fo).toArray 191 (0,0))
 rp:RowF 149 hb h b p
 op:∀ y ∈ p.l,Enc.ok hb y
 rc:RowF 3 hb h b ch
 rb:RowF 3 hb h b be
 d1:Apart p ch
 d2:Apart p be
 d3:Apart ch be
section
variable {hb h h2:Hp} {b:Nat} {x:DHarbour} {L:Sl (Sl DOption)} {wf:Value} {p p':Sl DOption} {ch be ch' be':Sl Int} {m0 m1 m0' m1':Int} {fo fo':Bool}
theorem zKx (H:h b=some (.cells (plC x L wf p ch be m0 m1 fo).toArray 191 (0,0))):h.lds (some ⟨b,0,none⟩) 12=some [.int .i64 x.forecast.tide.mean,x.forecast.tide.parts.val,x.forecast.surges.val,x.chart.points.val,x.chart.segments.val,x.fleet.val,.int .i64 x.regime.gap,.bool x.regime.noMeet,.int .i64 x.crew.tugs,.int .i64 x.crew.pilots,.int .i64 x.crew.rest,x.crew.moves.val]∧h.lds (some ⟨b,12,none⟩) 1=some [L.val]∧h.lds (some ⟨b,13,none⟩) 1=some [wf]∧h.lds (some ⟨b,14,none⟩) 1=some [p.val]∧h.lds (some ⟨b,15,none⟩) 1=some [ch.val]∧h.lds (some ⟨b,16,none⟩) 1=some [be.val]∧h.lds (some ⟨b,17,none⟩) 2=some [.int .i64 m0,.int .i64 m1]∧h.lds (some ⟨b,19,none⟩) 1=some [.bool fo]:=by
 unfold plC at H
 refine ⟨?_,?_,?_,?_,?_,?_,?_,?_⟩ <;> exact zx7 H rfl (by simp)
theorem PV.nbx (H:PV hb h b x L wf p ch be m0 m1 fo):h b ≠ none:=by rw [H.bx];exact fun e=>by cases e
theorem PV.pok (H:PV hb h b x L wf p ch be m0 m1 fo):p.Ok h:=H.rp.1.ok (by decide) fun y hy=>Enc.mono H.le (H.op y hy)
theorem PV.cok {pn:List Nat} (H:PV hb h b x L wf p ch be m0 m1 fo) (hc:ch.l=zs pn) (hp:∀ y ∈ pn,y < 100):ch.Ok h:=H.rc.1.ok (by decide) fun y hy=>by
 rw [hc] at hy
 obtain ⟨k,hk,rfl⟩:=List.mem_map.1 hy
 have:=hp k hk
 show I64 _;unfold I64;omega
theorem PV.grow (H:PV hb h b x L wf p ch be m0 m1 fo) (hle:h.le h2):PV hb h2 b x L wf p ch be m0 m1 fo :=
 ⟨Hp.le_trans H.le hle,H.ox,H.oL,H.nb,hle _ _ H.bx,H.rp.grow hle,H.op,H.rc.grow hle,H.rb.grow hle,H.d1,H.d2,H.d3⟩
theorem PV.mk2 (H:PV hb h b x L wf p ch be m0 m1 fo) (hle:hb.le h2) (rp:RowF 149 hb h2 b p') (op:∀ y ∈ p'.l,Enc.ok hb y) (rc:RowF 3 hb h2 b ch') (rb:RowF 3 hb h2 b be') (d1:Apart p' ch') (d2:Apart p' be') (d3:Apart ch' be') :
  PV hb (h2.ins b (.cells (plC x L wf p' ch' be' m0' m1' fo').toArray 191 (0,0))) b x L wf p' ch' be' m0' m1' fo':=by
 refine ⟨fun k o hk=>?_,H.ox,H.oL,H.nb,Hp.ins_same,rp.ins,op,rc.ins,rb.ins,d1,d2,d3⟩
 rw [Hp.ins_ne (fun e=>by subst e;rw [H.nb] at hk;cases hk)]
 exact hle k o hk
end
theorem zKy {x:Cx} {st:St} {KH:Hp→Prop} {t:TypeId} {b off:Nat} {u:Value} {xs xs':List Value} {e:TypeId} (ht:hasT x.P t=true) (hs:szT x.P t=1) (hu:SV.cells (.c (.v u))=[.v u]) (h1:u.oneCell'=true) (hb:st.h b=some (.cells xs.toArray e (0,0))) (hown:x.h0 b=none∨x.W0.own b) (hle:off+1≤xs.length) (hx:spl off [u] xs=xs')
  (hk:KH (st.h.ins b (.cells xs'.toArray e (0,0)))):zlL x st t (.c (.v (.pointer (some ⟨b,off,none⟩)))) (.c (.v u)) KH:=by
 refine zl3 ht hs hu h1 hb hown (by simpa using hle) ?_
 rw [List.toList_toArray,hx]
 exact hk
theorem zKz {x:Cx} {st:St} {KH:Hp→Prop} {t:TypeId} {b off:Nat} {u w:Value} {xs xs':List Value} {e:TypeId} (ht:hasT x.P t=true) (hs:szT x.P t=2) (h1:u.oneCell'=true) (h2:w.oneCell'=true) (hb:st.h b=some (.cells xs.toArray e (0,0))) (hown:x.h0 b=none∨x.W0.own b) (hle:off+2≤xs.length) (hx:spl off [u,w] xs=xs')
  (hk:KH (st.h.ins b (.cells xs'.toArray e (0,0)))):zlL x st t (.c (.v (.pointer (some ⟨b,off,none⟩)))) (.g [.v u,.v w]) KH:=by
 unfold zlL
 refine ⟨ht,rfl,?_,?_,b,off,xs.toArray,e,rfl,hb,hown,by rw [hs];simpa using hle,?_⟩
 ·show (([SC.v u,SC.v w]:List SC).all fun c=>c.val.oneCell')=true
  simp only [List.all_cons,List.all_nil,Bool.and_true,SC.val,h1,h2]
 ·rw [hs];rfl
 ·show KH (st.h.ins b (.cells (zbG off [u,w] xs.toArray.toList).toArray e (0,0)))
  rw [List.toList_toArray,show zbG off [u,w] xs=xs' from hx]
  exact hk
theorem zKA (a0 a1 b0 b1:Int) (h:Hp):Ct jV 191 [.agg #[.int .i64 a0,.int .i64 a1],.agg #[.int .i64 b0,.int .i64 b1]] h fun v h'=>v=.bool (zKt a0 a1 b0 b1)∧h'=h:=by
 have n1:Int.toNat (1:Int)=1:=rfl
 have z2:(0:Int) < ((2:Nat):Int):=by decide
 have o2:(1:Int) < ((2:Nat):Int):=by decide
 have o1:(0:Int)≤1:=by decide
 refine zdn (fun A W=>by simp) Tryz.func191 rfl rfl (by simp) fun W0=>?_
 repeat' first|refine Wa ?_|(simp only [go_sem,jq,jj,jy,jv,jk,jx,z2,o2,o1,Int.toNat_zero,n1,Nat.zero_mul,Nat.one_mul,Nat.zero_add,Nat.mul_one,Int.le_refl,implies_true,true_and,and_true,and_self];try rfl)|refine Wb ?_|fail
def zKB (f:DOption→DOption→Bool) (o:DOption) (b:Sl DOption):List Bool:=b.l.map (f o)
def zKC (f:DOption→DOption→Bool) (a b:Sl DOption):List (List Bool):=a.l.map fun o=>zKB f o b
def zKD (f:DOption→DOption→Bool) (L:List (Sl DOption)) (a:Sl DOption):List (List (List Bool)):=L.map (zKC f a)
def zKE (f:DOption→DOption→Bool) (L:List (Sl DOption)):List (List (List (List Bool))):=L.map (zKD f L)
def con2 (s:Sl (Sl Bool)):List (List Bool):=s.l.map (·.l)
def con3 (s:Sl (Sl (Sl Bool))):List (List (List Bool)):=s.l.map con2
def con4 (s:Sl (Sl (Sl (Sl Bool)))):List (List (List (List Bool))):=s.l.map con3
def cl (x:DHarbour) (o p:DOption):Bool:=zBa (Con.con x.chart) x.regime o.pas.l p.pas.l
theorem zKF {α β γ:Type} {f:α→β} {g:γ→β} {l:List α} {l2:List γ} (h:l.map f=l2.map g) {i:Nat} (hi:i < l.length) (hi2:i < l2.length):f l[i]=g l2[i]:=by
 have h1:(l.map f)[i]?=(l2.map g)[i]?:=by rw [h]
 rw [List.getElem?_map,List.getElem?_map,List.getElem?_eq_getElem hi,List.getElem?_eq_getElem hi2] at h1
 exact Option.some.inj h1
theorem zKG {α β γ:Type} {f:α→β} {g:γ→β} {l:List α} {l2:List γ} (h:l.map f=l2.map g):l.length=l2.length:=by
 have:=congrArg List.length h
 rwa [List.length_map,List.length_map] at this
set_option maxRecDepth 30000 in
theorem zKH (x:DHarbour) (L:Sl (Sl DOption)) (h:Hp) (hx:Enc.ok h x) (hL:L.Ok h) (hL6:L.l.length≤6) (hLn:∀ l ∈ L.l,l.l.length≤90) (hok:L.l ≠ []→zz9 (Con.con x.chart)=true∧zAm x.regime=true):Ct jV 163 [x.v,L.val] h fun v h'=>∃ s:Sl (Sl (Sl (Sl Bool))),v=s.val∧con4 s=zKE (cl x) L.l∧s.Ok h':=by
 have hl:=hL.max
 refine zdn (fun A W=>by simp) Tryz.func163 rfl rfl (by simp) fun W0=>?_
 refine Wk ?_
 refine zm1 (ι:=Nat × List (Sl (Sl (Sl Bool))) × Hp) (fun t=>⟨[(1,true,.c (.v L.val)),(2,true,.c (.p 0 0)),(4,true,.c (.v (.slice none 0 0))),(5,true,.c (.s 1)),(18,true,.c (.v L.val)),(19,true,.c (.v (.int .i64 L.l.length))),(20,true,.c (.v (.int .i64 t.1)))],[(0,.box 58 [.v (.int .i64 x.forecast.tide.mean),.v x.forecast.tide.parts.val,.v x.forecast.surges.val,.v x.chart.points.val,.v x.chart.segments.val,.v x.fleet.val,.v (.int .i64 x.regime.gap),.v (.bool x.regime.noMeet),.v (.int .i64 x.crew.tugs),.v (.int .i64 x.crew.pilots),.v (.int .i64 x.crew.rest),.v x.crew.moves.val]),(1,.row 271 1 t.1 (t.2.1.flatMap Enc.enc))],t.2.2,2⟩) (fun t=>t.1≤L.l.length∧t.2.1.length=t.1∧t.2.1.map con3=(L.l.take t.1).map (zKD (cl x) L.l)∧(∀ y ∈ t.2.1,Enc.ok t.2.2 y)∧h.le t.2.2) (fun t=>L.l.length - t.1) (0,[],h) ⟨Nat.zero_le _,rfl,rfl,fun y hy=>(by cases hy),Hp.le_refl _⟩ [0,1] ?_ ?_
 ·refine Evs ?_
  exact Gk
 rintro ⟨i,os,h1⟩ ⟨hi,hn1,hm1,ho1,le1⟩
 simp only at hi hn1 hm1 ho1 le1
 have hL1:=hL.mono le1
 refine Wk ?_
 refine zc9 rfl (fun hdi=>?_) (fun hdi=>?_)
 ·have hlt1:=zjH hdi
  obtain ⟨hC,hR⟩:=hok (fun e=>by rw [e] at hlt1;cases hlt1)
  have hmx1:=hLn _ (List.getElem_mem hlt1)
  repeat' first|refine Wa ?_|(simp only [go_sem,jq,jj,jy,jv,jk,jx,zkQ hL1 hlt1,hL1.some hlt1,hlt1,jW];try rfl)|refine Wb ?_|fail
  refine zm1 (ι:=Nat × List (Sl (Sl Bool)) × Hp) (fun t=>⟨[(1,true,.c (.v L.val)),(2,true,.c (.p 0 0)),(4,true,.c (.v (.slice none 0 0))),(5,true,.c (.s 1)),(7,true,.c (.v L.l[i].val)),(8,true,.c (.s 2)),(18,true,.c (.v L.val)),(19,true,.c (.v (.int .i64 L.l.length))),(20,true,.c (.v (.int .i64 i))),(25,true,.c (.v L.val)),(26,true,.c (.v (.int .i64 L.l.length))),(27,true,.c (.v (.int .i64 t.1)))],[(0,.box 58 [.v (.int .i64 x.forecast.tide.mean),.v x.forecast.tide.parts.val,.v x.forecast.surges.val,.v x.chart.points.val,.v x.chart.segments.val,.v x.fleet.val,.v (.int .i64 x.regime.gap),.v (.bool x.regime.noMeet),.v (.int .i64 x.crew.tugs),.v (.int .i64 x.crew.pilots),.v (.int .i64 x.crew.rest),.v x.crew.moves.val]),(1,.row 271 1 i (os.flatMap Enc.enc)),(2,.row 272 1 t.1 (t.2.1.flatMap Enc.enc))],t.2.2,3⟩) (fun t=>t.1≤L.l.length∧t.2.1.length=t.1∧t.2.1.map con2=(L.l.take t.1).map (zKC (cl x) L.l[i])∧(∀ y ∈ t.2.1,Enc.ok t.2.2 y)∧h1.le t.2.2) (fun t=>L.l.length - t.1) (0,[],h1) ⟨Nat.zero_le _,rfl,rfl,fun y hy=>(by cases hy),Hp.le_refl _⟩ [0,1,2] ?_ ?_
  ·refine Evs ?_
   exact Gk
  rintro ⟨j,rs,h2⟩ ⟨hij,hn2,hm2,ho2,le2⟩
  simp only at hij hn2 hm2 ho2 le2
  have le02:=Hp.le_trans le1 le2
  have hL2:=hL.mono le02
  refine Wk ?_
  refine zc9 rfl (fun hdj=>?_) (fun hdj=>?_)
  ·have hlt2:=zjH hdj
   have hmx2:=hLn _ (List.getElem_mem hlt2)
   repeat' first|refine Wa ?_|(simp only [go_sem,jq,jj,jy,jv,jk,jx,zkQ hL2 hlt2,hL2.some hlt2,hlt2,jW];try rfl)|refine Wb ?_|fail
   refine zm1 (ι:=Nat × List (Sl Bool) × Hp) (fun t=>⟨[(1,true,.c (.v L.val)),(2,true,.c (.p 0 0)),(4,true,.c (.v (.slice none 0 0))),(5,true,.c (.s 1)),(7,true,.c (.v L.l[i].val)),(8,true,.c (.s 2)),(10,true,.c (.v L.l[j].val)),(11,true,.c (.s 3)),(18,true,.c (.v L.val)),(19,true,.c (.v (.int .i64 L.l.length))),(20,true,.c (.v (.int .i64 i))),(25,true,.c (.v L.val)),(26,true,.c (.v (.int .i64 L.l.length))),(27,true,.c (.v (.int .i64 j))),(32,true,.c (.v L.l[i].val)),(33,true,.c (.v (.int .i64 L.l[i].l.length))),(34,true,.c (.v (.int .i64 t.1)))],[(0,.box 58 [.v (.int .i64 x.forecast.tide.mean),.v x.forecast.tide.parts.val,.v x.forecast.surges.val,.v x.chart.points.val,.v x.chart.segments.val,.v x.fleet.val,.v (.int .i64 x.regime.gap),.v (.bool x.regime.noMeet),.v (.int .i64 x.crew.tugs),.v (.int .i64 x.crew.pilots),.v (.int .i64 x.crew.rest),.v x.crew.moves.val]),(1,.row 271 1 i (os.flatMap Enc.enc)),(2,.row 272 1 j (rs.flatMap Enc.enc)),(3,.row 117 1 t.1 (t.2.1.flatMap Enc.enc))],t.2.2,4⟩) (fun t=>t.1≤L.l[i].l.length∧t.2.1.length=t.1∧t.2.1.map (·.l)=(L.l[i].l.take t.1).map (fun o=>zKB (cl x) o L.l[j])∧(∀ y ∈ t.2.1,Enc.ok t.2.2 y)∧h2.le t.2.2) (fun t=>L.l[i].l.length - t.1) (0,[],h2) ⟨Nat.zero_le _,rfl,rfl,fun y hy=>(by cases hy),Hp.le_refl _⟩ [0,1,2,3] ?_ ?_
   ·refine Evs ?_
    exact Gk
   rintro ⟨n,ts,h3⟩ ⟨hin,hn3,hm3,ho3,le3⟩
   simp only at hin hn3 hm3 ho3 le3
   have le03:=Hp.le_trans le02 le3
   have hx4:Enc.ok h3 x:=Enc.mono le03 hx
   have hL3:=hL.mono le03
   have hao:L.l[i].Ok h3:=Sl.Ok.el hL3 hlt1
   have hbo:L.l[j].Ok h3:=Sl.Ok.el hL3 hlt2
   refine Wk ?_
   refine zc9 rfl (fun hdn=>?_) (fun hdn=>?_)
   ·have hlt3:=zjH hdn
    repeat' first|refine Wa ?_|(simp only [go_sem,jq,jj,jy,jv,jk,jx,zkZ hao hlt3,hao.some hlt3,hlt3,jW];try rfl)|refine Wb ?_|fail
    refine zm1 (ι:=Nat) (fun m=>⟨[(1,true,.c (.v L.val)),(2,true,.c (.p 0 0)),(4,true,.c (.v (.slice none 0 0))),(5,true,.c (.s 1)),(7,true,.c (.v L.l[i].val)),(8,true,.c (.s 2)),(10,true,.c (.v L.l[j].val)),(11,true,.c (.s 3)),(13,true,.c (.p 4 0)),(14,true,.c (.s 5)),(18,true,.c (.v L.val)),(19,true,.c (.v (.int .i64 L.l.length))),(20,true,.c (.v (.int .i64 i))),(25,true,.c (.v L.val)),(26,true,.c (.v (.int .i64 L.l.length))),(27,true,.c (.v (.int .i64 j))),(32,true,.c (.v L.l[i].val)),(33,true,.c (.v (.int .i64 L.l[i].l.length))),(34,true,.c (.v (.int .i64 n))),(39,true,.c (.v L.l[j].val)),(40,true,.c (.v (.int .i64 L.l[j].l.length))),(41,true,.c (.v (.int .i64 m)))],[(0,.box 58 [.v (.int .i64 x.forecast.tide.mean),.v x.forecast.tide.parts.val,.v x.forecast.surges.val,.v x.chart.points.val,.v x.chart.segments.val,.v x.fleet.val,.v (.int .i64 x.regime.gap),.v (.bool x.regime.noMeet),.v (.int .i64 x.crew.tugs),.v (.int .i64 x.crew.pilots),.v (.int .i64 x.crew.rest),.v x.crew.moves.val]),(1,.row 271 1 i (os.flatMap Enc.enc)),(2,.row 272 1 j (rs.flatMap Enc.enc)),(3,.row 117 1 n (ts.flatMap Enc.enc)),(4,.box 149 [.v (.int .i64 L.l[i].l[n].start),.v (.int .i64 L.l[i].l[n].arr),.v (.int .i64 L.l[i].l[n].cost),.v L.l[i].l[n].pas.val]),(5,.row 4 1 m (((L.l[j].l.take m).map (cl x L.l[i].l[n])).flatMap Enc.enc))],h3,6⟩) (fun m=>m≤L.l[j].l.length) (fun m=>L.l[j].l.length - m) 0 (Nat.zero_le _) [0,1,2,3,4,5] ?_ ?_
    ·refine Evs ?_
     exact Gk
    intro m hm
    refine Wk ?_
    refine zc9 rfl (fun hdm=>?_) (fun hdm=>?_)
    ·have hlt4:=zjH hdm
     repeat' first|refine Wa ?_|refine zhF (fun _=>zGf x.chart x.regime L.l[i].l[n].pas L.l[j].l[m].pas _ hx4.2.1 hR hC (Sl.Ok.el hao hlt3).2.2.2 (Sl.Ok.el hbo hlt4).2.2.2) ?_|(simp only [go_sem,jq,jj,jy,jv,jk,jx,zkZ hbo hlt4,hbo.some hlt4,hlt4,jW];try rfl)|refine Wb ?_|fail
     refine ⟨by simp only [maxLen];omega,by omega,?_⟩
     refine Wk ?_
     refine ⟨m+1,[0,1,2,3,4,8],hlt4,by omega,?_⟩
     refine Evs ?_
     rw [zns hlt4,List.flatMap_append]
     exact Gi (zjA hlt4 (by omega))
    ·have hgem:=zjI hdm
     have hme:m=L.l[j].l.length:=by omega
     rw [hme,List.take_length]
     refine zc6 ?_
     refine Evs ?_
     refine zjQ 5 (zKB (cl x) L.l[i].l[n] L.l[j]) rfl rfl (List.length_map ..).symm rfl (by decide) (fun _ _=>trivial) fun s h' e1 e2 le4 _ _=>?_
     refine Wk ?_
     refine ⟨by simp only [maxLen];omega,by omega,?_⟩
     refine Wk ?_
     refine ⟨(n+1,ts ++ [s],h'),[0,1,2,7],⟨hlt3,by simp [hn3],by rw [List.map_append,hm3,zns hlt3,List.map_cons,List.map_nil,e1],fun y hy=>?_,Hp.le_trans le3 le4⟩,by simp only;omega,?_⟩
     ·rcases List.mem_append.1 hy with hy|hy
      ·exact Enc.mono le4 (ho3 y hy)
      ·rw [List.mem_singleton.1 hy];exact e2
     refine Evs ?_
     rw [List.flatMap_append]
     have lle:=Hp.le_trans le03 le4
     exact Gi (zjA hlt3 (by omega))
   ·have hgen:=zjI hdn
    have hne:n=L.l[i].l.length:=by omega
    refine zc6 ?_
    refine Evs ?_
    refine zjQ 3 ts rfl rfl hn3.symm rfl (by decide) ho3 fun s h' e1 e2 le4 _ _=>?_
    refine Wk ?_
    refine ⟨by simp only [maxLen];omega,by omega,?_⟩
    refine Wk ?_
    refine ⟨(j+1,rs ++ [s],h'),[0,1,5],⟨hlt2,by simp [hn2],?_,fun y hy=>?_,Hp.le_trans le2 (Hp.le_trans le3 le4)⟩,by simp only;omega,?_⟩
    ·rw [List.map_append,hm2,zns hlt2,List.map_cons,List.map_nil,con2,e1,hm3,hne,List.take_length];rfl
    ·rcases List.mem_append.1 hy with hy|hy
     ·exact Enc.mono (Hp.le_trans le3 le4) (ho2 y hy)
     ·rw [List.mem_singleton.1 hy];exact e2
    refine Evs ?_
    rw [List.flatMap_append]
    have lle:=Hp.le_trans le03 le4
    exact Gi (zjA hlt2 (by omega))
  ·have hgej:=zjI hdj
   have hje:j=L.l.length:=by omega
   refine zc6 ?_
   refine Evs ?_
   refine zjQ 2 rs rfl rfl hn2.symm rfl (by decide) ho2 fun s h' e1 e2 le4 _ _=>?_
   refine Wk ?_
   refine ⟨by simp only [maxLen];omega,by omega,?_⟩
   refine Wk ?_
   refine ⟨(i+1,os ++ [s],h'),[0,4],⟨hlt1,by simp [hn1],?_,fun y hy=>?_,Hp.le_trans le1 (Hp.le_trans le2 le4)⟩,by simp only;omega,?_⟩
   ·rw [List.map_append,hm1,zns hlt1,List.map_cons,List.map_nil,con3,e1,hm2,hje,List.take_length];rfl
   ·rcases List.mem_append.1 hy with hy|hy
    ·exact Enc.mono (Hp.le_trans le2 le4) (ho1 y hy)
    ·rw [List.mem_singleton.1 hy];exact e2
   refine Evs ?_
   rw [List.flatMap_append]
   have lle:=Hp.le_trans le02 le4
   exact Gi (zjA hlt1 (by omega))
 ·have hge:=zjI hdi
  have hie:i=L.l.length:=by omega
  refine zc6 ?_
  refine Evs ?_
  refine zjQ 1 os rfl rfl hn1.symm rfl (by decide) ho1 fun s h' e1 e2 _ _ _=>?_
  refine Wk ?_
  exact ⟨s,rfl,by rw [con4,e1,hm1,hie,List.take_length];rfl,e2⟩
theorem zKI {f:DOption→DOption→Bool} {s:Sl (Sl (Sl (Sl Bool)))} {L:List (Sl DOption)} (h:con4 s=zKE f L) {i j n m:Nat} (hi:i < L.length) (hj:j < L.length) (hn:n < L[i].l.length) (hm:m < L[j].l.length) :
  ∃ (h1:i < s.l.length) (h2:j < s.l[i].l.length) (h3:n < s.l[i].l[j].l.length) (h4:m < s.l[i].l[j].l[n].l.length),s.l[i].l[j].l[n].l[m]=f L[i].l[n] L[j].l[m]:=by
 have h1:i < s.l.length:=by rw [zKG h];exact hi
 have e1:=zKF h h1 hi
 have h2:j < s.l[i].l.length:=by rw [zKG e1];exact hj
 have e2:=zKF e1 h2 hj
 have h3:n < s.l[i].l[j].l.length:=by rw [zKG e2];exact hn
 have e3:=zKF e2 h3 hn
 have l3:s.l[i].l[j].l[n].l.length=L[j].l.length:=by rw [e3,zKB,List.length_map]
 have h4:m < s.l[i].l[j].l[n].l.length:=by rw [l3];exact hm
 refine ⟨h1,h2,h3,h4,?_⟩
 have e4:(s.l[i].l[j].l[n].l)[m]?=(zKB f L[i].l[n] L[j])[m]?:=by rw [e3]
 rw [List.getElem?_eq_getElem h4,zKB,List.getElem?_map,List.getElem?_eq_getElem hm] at e4
 exact Option.some.inj e4
def LL (L:Sl (Sl DOption)):List (List POption):=L.l.map fun l=>l.l.map (Con.con (α:=DOption))
theorem zKJ {L:Sl (Sl DOption)} {i:Nat} (hi:i < L.l.length):(LL L).drop i=L.l[i].l.map (Con.con (α:=DOption)) :: (LL L).drop (i+1):=by
 have h:i < (LL L).length:=by rw [LL,List.length_map];exact hi
 rw [List.drop_eq_getElem_cons h]
 simp [LL]
def zKK (x:PHarbour) (w:List POption→Int) (L:List (List POption)) (l p:List POption) (ch:List Nat) (st:BSt) (k:Nat):BSt:=if zJT x p (l.getD k zFE)=true then srW x w L (p ++ [l.getD k zFE]) (ch ++ [k]) st else st
set_option maxRecDepth 30000 in
theorem zKL (hb:Hp) (b:Nat) (x:DHarbour) (L:Sl (Sl DOption)) (wfn:Nat) (cs:List Value) (w:List POption→Int) (hR:zAm x.regime=true) (hL6:L.l.length≤6) (hLn:∀ l ∈ L.l,l.l.length≤90) (hLg:∀ l ∈ L.l,∀ y ∈ l.l,zJb (Con.con x.chart) x.fleet.l y.pas.l∧y.pas.l.length≤1000)
  (hw:∀ (s:Sl DOption) (h:Hp),s.Ok h→hb.le h→s.l.length≤6→Ct jV wfn ([s.val] ++ cs) h fun v h'=>v=.agg #[.int .i64 (w (s.l.map Con.con)),.int .i64 0]∧h'=h) :
  ∀ (f:Nat) (pn:List Nat) (p:Sl DOption) (ch be:Sl Int) (m0 m1:Int) (fo:Bool) (st:BSt) (h:Hp),PV hb h b x L (.func (.func wfn) #[] cs.toArray) p ch be m0 m1 fo→BS st be m0 m1 fo→p.l.length+f=L.l.length→ch.l=zs pn→pn.length=p.l.length→(∀ y ∈ p.l,zJb (Con.con x.chart) x.fleet.l y.pas.l∧y.pas.l.length≤1000)→(∀ y ∈ pn,y < 100) →
   Cw jV 144 [.pointer (some ⟨b,0,none⟩)] h (fun k=>hb k=none∧h k ≠ none) fun v h'=>∃ (p':Sl DOption) (ch' be':Sl Int) (m0' m1':Int) (fo':Bool),PV hb h' b x L (.func (.func wfn) #[] cs.toArray) p' ch' be' m0' m1' fo'∧p'.l=p.l∧ch'.l=ch.l∧BS (srW (Con.con x) w ((LL L).drop p.l.length) (p.l.map Con.con) pn st) be' m0' m1' fo':=by
 intro f
 induction f using Nat.strongRecOn with
 | _ f ih =>
 intro pn p ch be m0 m1 fo st h H hst hlen hch hpn hpg hpb
 obtain ⟨q0,q12,q13,q14,q15,q16,q17,q19⟩:=zKx H.bx
 have hpo:=H.pok
 have hLo:=H.oL.mono H.le
 have hLm:=hLo.max
 refine zlI (fun A W=>by simp) Tryz.func144 rfl rfl (by simp)  (fun k hk=>hk.2) fun W0 hW=>?_
 have own:∀ k,hb k=none→h k=none∨W0.own k:=fun k hk=>by
  cases hh:h k with
  | none=>exact .inl rfl
  | some o=>exact .inr (hW k ⟨hk,by rw [hh];simp⟩)
 refine zc3 ?_
 refine zEC (ι:=Unit) (fun _=>⟨[(0,true,.c (.v (.pointer (some ⟨b,0,none⟩)))),(2,true,.c (.p 0 0))],[(0,.box 137 [.v (.int .i64 (w (p.l.map Con.con))),.v (.int .i64 0)])],h,1⟩) (fun _=>True) ?_ ?_
 ·refine zyW rfl ?_
  refine U_t [0,4,1,5,2,6,3,7] rfl ?_
  simp only [go_sem,jq,jj,jy,jv,jk,jx,q0,q12,q13,q14,q15,q16,q17,q19,true_or,true_and,and_true,implies_true]
  refine U_m 8 [9] ⟨?_,?_,trivial⟩
  ·refine U_b 8 0 [] rfl rfl ?_
   simp only [go_sem,jq,jj,jy,jv,jk,jx,q0,q12,q13,q14,q15,q16,q17,q19,true_or,true_and,and_true,implies_true]
   refine zhF (fun _=>hw p h hpo H.le (by omega)) ?_
   simp only [go_sem,jq,jj,jy,jv,jk,jx,q0,q12,q13,q14,q15,q16,q17,q19,true_or,true_and,and_true,implies_true]
   refine U_1 9 0 [] rfl rfl ?_
   simp only [go_sem,jq,jj,jy,jv,jk,jx,q0,q12,q13,q14,q15,q16,q17,q19,true_or,true_and,and_true,implies_true]
   refine U_1 10 0 [] rfl rfl ?_
   simp only [go_sem,jq,jj,jy,jv,jk,jx,q0,q12,q13,q14,q15,q16,q17,q19,true_or,true_and,and_true,implies_true]
   refine U_d ?_
   refine ⟨(),[0],?_⟩
   refine Evs ?_
   exact Gk
  ·refine U_b 9 0 [7,3,6,2,5,1] rfl rfl ?_
   simp only [go_sem,jq,jj,jy,jv,jk,jx,q0,q12,q13,q14,q15,q16,q17,q19,true_or,true_and,and_true,implies_true]
   refine U_1 8 0 [] rfl rfl ?_
   simp only [go_sem,jq,jj,jy,jv,jk,jx,q0,q12,q13,q14,q15,q16,q17,q19,true_or,true_and,and_true,implies_true]
   refine zhF (fun _=>hw p h hpo H.le (by omega)) ?_
   simp only [go_sem,jq,jj,jy,jv,jk,jx,q0,q12,q13,q14,q15,q16,q17,q19,true_or,true_and,and_true,implies_true]
   refine U_1 10 0 [] rfl rfl ?_
   simp only [go_sem,jq,jj,jy,jv,jk,jx,q0,q12,q13,q14,q15,q16,q17,q19,true_or,true_and,and_true,implies_true]
   refine U_d ?_
   refine ⟨(),[0],?_⟩
   refine Evs ?_
   exact Gk
 intro _ _
 refine Wk ?_
 refine zyW rfl ?_
 refine U_t [0,1,2,3,4,5,6,7,8,9] rfl ?_
 simp only [go_sem,jq,jj,jy,jv,jk,jx,q0,q12,q13,q14,q15,q16,q17,q19,true_or,true_and,and_true,implies_true]
 refine U_1 10 0 [] rfl rfl ?_
 simp only [go_sem,jq,jj,jy,jv,jk,jx,q0,q12,q13,q14,q15,q16,q17,q19,true_or,true_and,and_true,implies_true]
 refine zhF (fun _=>zKA _ _ _ _ _) ?_
 simp only [go_sem,jq,jj,jy,jv,jk,jx,q0,q12,q13,q14,q15,q16,q17,q19,true_or,true_and,and_true,implies_true]
 refine U_t [11,12] rfl ?_
 simp only [go_sem,jq,jj,jy,jv,jk,jx,q0,q12,q13,q14,q15,q16,q17,q19,true_or,true_and,and_true,implies_true]
 refine U_d ?_
 have hcut:=zKu (c:=w (p.l.map Con.con)) hst
 refine zc9 rfl (fun hq=>?_) (fun hq=>?_)
 ·rw [hcut] at hq
  refine Wk ?_
  refine ⟨p,ch,be,m0,m1,fo,H,rfl,rfl,?_⟩
  have hs:srW (Con.con x) w ((LL L).drop p.l.length) (p.l.map Con.con) pn st=st:=by
   cases (LL L).drop p.l.length with
   | nil=>rw [srW,if_pos hq]
   | cons l M=>rw [srW,if_pos hq]
  rw [hs]
  exact hst
 rw [hcut] at hq
 repeat' first|refine Wa ?_|(simp only [go_sem,jq,jj,jy,jv,jk,jx,q0,q12,q13,q14,q15,q16,q17,q19,true_or,true_and,and_true,implies_true];try rfl)|refine Wb ?_|fail
 refine zc9 rfl (fun hx=>?_) (fun hx=>?_)
 ·have hx:p.l.length=L.l.length:=by have:=eq_of_beq hx;omega
  have hs:srW (Con.con x) w ((LL L).drop p.l.length) (p.l.map Con.con) pn st=some (pn,w (p.l.map Con.con)):=by
   rw [List.drop_of_length_le (by rw [LL,List.length_map];omega),srW,if_neg (by rw [hq];exact Bool.false_ne_true)]
  rw [hs]
  refine Wk ?_
  refine zyW rfl ?_
  refine U_t [0,1,2,3,8,4,5,6] rfl ?_
  simp only [go_sem,jq,jj,jy,jv,jk,jx,q0,q12,q13,q14,q15,q16,q17,q19,true_or,true_and,and_true,implies_true]
  refine U_1 7 0 [8] rfl rfl ?_
  simp only [go_sem,jq,jj,jy,jv,jk,jx,q0,q12,q13,q14,q15,q16,q17,q19,true_or,true_and,and_true,implies_true]
  refine zkr (zES ch _ (H.cok hch hpb) (by rw [hch,zHW];omega)) rfl ?_
  rintro v h1 le1 ⟨q,rfl,eq1,Rq,fq⟩
  have H1:=H.grow le1
  obtain ⟨q0,q12,q13,q14,q15,q16,q17,q19⟩:=zKx H1.bx
  have rq:RowF 3 hb h1 b q:=⟨Rq,fun g hg=>⟨znC H.le (fq g hg),fun e=>H.nbx (by rw [← e];exact fq g hg)⟩⟩
  have dq1:Apart p q:=fun g hg hq=>zIm H.rp.1 hg (fq g hq)
  have dq2:Apart ch q:=fun g hg hq=>zIm H.rc.1 hg (fq g hq)
  simp only [go_sem,jq,jj,jy,jv,jk,jx,q0,q12,q13,q14,q15,q16,q17,q19,true_or,true_and,and_true,implies_true]
  refine U_t [9,10] rfl ?_
  simp only [go_sem,jq,jj,jy,jv,jk,jx,q0,q12,q13,q14,q15,q16,q17,q19,true_or,true_and,and_true,implies_true]
  refine U_1 11 1 [8] rfl rfl ?_
  simp only [go_sem,jq,jj,jy,jv,jk,jx,q0,q12,q13,q14,q15,q16,q17,q19,true_or,true_and,and_true,implies_true]
  refine zKy (xs':=plC x L (.func (.func wfn) #[] cs.toArray) p ch q m0 m1 fo) (by simp only [go_sem]) (by simp only [go_sem]) rfl rfl H1.bx (own b H.nb) (by simp [plC]) rfl ?_
  refine Evs ?_
  refine U_t [12,13] rfl ?_
  simp only [go_sem,jq,jj,jy,jv,jk,jx,q0,q12,q13,q14,q15,q16,q17,q19,true_or,true_and,and_true,implies_true]
  refine U_1 14 1 [] rfl rfl ?_
  simp only [go_sem,jq,jj,jy,jv,jk,jx,q0,q12,q13,q14,q15,q16,q17,q19,true_or,true_and,and_true,implies_true]
  refine zKz (xs':=plC x L (.func (.func wfn) #[] cs.toArray) p ch q (w (p.l.map Con.con)) 0 fo) (by simp only [go_sem]) (by simp only [go_sem]) rfl rfl Hp.ins_same (own b H.nb) (by simp [plC]) rfl ?_
  try simp only [go_sem,jq,jj,jy,jv,jk,jx]
  refine U_t [15,16] rfl ?_
  simp only [go_sem,jq,jj,jy,jv,jk,jx,q0,q12,q13,q14,q15,q16,q17,q19,true_or,true_and,and_true,implies_true]
  refine U_1 17 1 [] rfl rfl ?_
  simp only [go_sem,jq,jj,jy,jv,jk,jx,q0,q12,q13,q14,q15,q16,q17,q19,true_or,true_and,and_true,implies_true]
  refine zKy (xs':=plC x L (.func (.func wfn) #[] cs.toArray) p ch q (w (p.l.map Con.con)) 0 true) (by simp only [go_sem]) (by simp only [go_sem]) rfl rfl Hp.ins_same (own b H.nb) (by simp [plC]) rfl ?_
  try simp only [go_sem,jq,jj,jy,jv,jk,jx]
  rw [Hp.ins_ins,Hp.ins_ins]
  refine U_d ?_
  refine Wk ?_
  exact ⟨p,ch,q,_,0,true,PV.mk2 H1 H1.le H1.rp H1.op H1.rc rq H1.d1 dq1 dq2,rfl,rfl,rfl,by rw [eq1,hch],rfl,rfl⟩
 have hx:¬ (p.l.length=L.l.length):=by have:=ne_of_beq_false hx;omega
 have hi:p.l.length < L.l.length:=by omega
 have hii:(p.l.length:Int) < L.l.length:=by omega
 have hlo:=hLo.el hi
 have hlm:=Sl.Ok.max hlo
 have hmem:L.l[p.l.length] ∈ L.l:=List.getElem_mem hi
 refine zc5 ?_
 refine Evs ?_
 repeat' first|refine Wa ?_|(simp only [go_sem,jq,jj,jy,jv,jk,jx,q0,q12,q13,q14,q15,q16,q17,q19,true_or,true_and,and_true,implies_true,zkQ hLo hi,hLo.some hi,hi,hii,jW,jY,and_self];try rfl)|refine Wb ?_|fail
 refine zEE (ι:=Nat × Hp × Sl DOption × Sl Int × Sl Int × Int × Int × Bool) (fun i=>⟨[(0,true,.c (.v (.pointer (some ⟨b,0,none⟩)))),(3,true,.c (.v (.int .i64 p.l.length))),(61,true,.c (.v L.l[p.l.length].val)),(62,true,.c (.v (.int .i64 L.l[p.l.length].l.length))),(63,true,.c (.v (.int .i64 i.1)))],[],i.2.1,0⟩)
  (fun i=>i.1≤L.l[p.l.length].l.length∧PV hb i.2.1 b x L (.func (.func wfn) #[] cs.toArray) i.2.2.1 i.2.2.2.1 i.2.2.2.2.1 i.2.2.2.2.2.1 i.2.2.2.2.2.2.1 i.2.2.2.2.2.2.2∧i.2.2.1.l=p.l∧i.2.2.2.1.l=ch.l∧BS ((List.range i.1).foldl (zKK (Con.con x) w ((LL L).drop (p.l.length+1)) (L.l[p.l.length].l.map Con.con) (p.l.map Con.con) pn) st) i.2.2.2.2.1 i.2.2.2.2.2.1 i.2.2.2.2.2.2.1 i.2.2.2.2.2.2.2) (fun i=>L.l[p.l.length].l.length - i.1) (0,h,p,ch,be,m0,m1,fo) ⟨Nat.zero_le _,H,rfl,rfl,hst⟩ [] ?_ ?_
 ·refine Evs ?_
  exact Gk
 rintro ⟨k,hk,p1,c1,be1,n0,n1,fo1⟩ ⟨hkl,H1,ep1,ec1,hB1⟩
 simp only at hkl H1 ep1 ec1 hB1
 obtain ⟨q0,q12,q13,q14,q15,q16,q17,q19⟩:=zKx H1.bx
 have hp1l:p1.l.length=p.l.length:=by rw [ep1]
 have hc1l:c1.l.length=p.l.length:=by rw [ec1,hch,zHW,hpn]
 refine Wk ?_
 refine zc9 rfl (fun hd=>?_) (fun hd=>?_)
 ·have hlt:=zjH hd
  have hxk:Enc.ok hk x:=Enc.mono H1.le H1.ox
  have hlk:L.l[p.l.length].Ok hk:=Sl.Ok.el (H1.oL.mono H1.le) hi
  obtain ⟨o,ho⟩:∃ o,L.l[p.l.length].l[k]=o:=⟨_,rfl⟩
  have hok0:Enc.ok hb o:=by rw [← ho];exact Sl.Ok.el (Sl.Ok.el H1.oL hi) hlt
  have hok:Enc.ok hk o:=Enc.mono H1.le hok0
  have hog:=hLg _ hmem o (by rw [← ho];exact List.getElem_mem hlt)
  have hgd:(L.l[p.l.length].l.map (Con.con (α:=DOption))).getD k zFE=Con.con o:=by simp [List.getD_eq_getElem?_getD,hlt,ho]
  have hgo:∀ q ∈ p1.l ++ [o],zJb (Con.con x.chart) x.fleet.l q.pas.l:=fun q hq=>by
   rcases List.mem_append.1 hq with hq|hq
   ·exact (hpg q (by rw [← ep1];exact hq)).1
   ·rw [List.mem_singleton.1 hq];exact hog.1
  have hszo:((p1.l ++ [o]).flatMap (·.pas.l)).length≤1048576:=by
   refine Nat.le_trans (zDo (B:=1000) fun q hq=>?_) (by rw [List.length_append,List.length_singleton];omega)
   rcases List.mem_append.1 hq with hq|hq
   ·exact (hpg q (by rw [← ep1];exact hq)).2
   ·rw [List.mem_singleton.1 hq];exact hog.2
  have hstep:∀ st',zKK (Con.con x) w ((LL L).drop (p.l.length+1)) (L.l[p.l.length].l.map Con.con) (p.l.map Con.con) pn st' k=if zJT (Con.con x) (p.l.map Con.con) (Con.con o)=true then srW (Con.con x) w ((LL L).drop (p.l.length+1)) (p.l.map Con.con ++ [Con.con o]) (pn ++ [k]) st' else st':=fun st'=>by rw [zKK,hgd]
  have hk90:=hLn _ hmem
  repeat' first|refine Wa ?_|(simp only [go_sem,jq,jj,jy,jv,jk,jx,zkZ hlk hlt,hlk.some hlt,hlt,ho,jW];try rfl)|refine Wb ?_|fail
  refine zyW rfl ?_
  refine U_t [0,4,8,1,5,2,6,3,7] rfl ?_
  simp only [go_sem,jq,jj,jy,jv,jk,jx,q0,q12,q13,q14,q15,q16,q17,q19,true_or,true_and,and_true,implies_true]
  refine U_1 9 0 [] rfl rfl ?_
  simp only [go_sem,jq,jj,jy,jv,jk,jx,q0,q12,q13,q14,q15,q16,q17,q19,true_or,true_and,and_true,implies_true]
  refine zhF (fun _=>zKp x p1 o _ hxk H1.pok hok hR hgo hszo (by omega)) ?_
  simp only [go_sem,jq,jj,jy,jv,jk,jx,q0,q12,q13,q14,q15,q16,q17,q19,true_or,true_and,and_true,implies_true]
  refine U_t [10] rfl ?_
  simp only [go_sem,jq,jj,jy,jv,jk,jx,q0,q12,q13,q14,q15,q16,q17,q19,true_or,true_and,and_true,implies_true]
  refine U_d ?_
  rw [ep1]
  refine zc9 rfl (fun hq=>?_) (fun hq=>?_)
  ·rw [Bool.not_eq_true'] at hq
   refine Wk ?_
   refine ⟨(k+1,hk,p1,c1,be1,n0,n1,fo1),[],⟨hlt,H1,ep1,ec1,?_⟩,by simp only;omega,?_⟩
   ·simp only
    rw [List.range_succ,List.foldl_append,List.foldl_cons,List.foldl_nil,hstep,if_neg (by rw [hq];exact Bool.false_ne_true)]
    exact hB1
   refine Evs ?_
   exact Gi (zjA hlt (by omega))
  rw [Bool.not_eq_false'] at hq
  refine zc5 ?_
  refine Evs ?_
  refine zc3 ?_
  refine zEC (ι:=Hp × Sl DOption × Sl Int) (fun i=>⟨[(0,true,.c (.v (.pointer (some ⟨b,0,none⟩)))),(3,true,.c (.v (.int .i64 p.l.length))),(61,true,.c (.v L.l[p.l.length].val)),(62,true,.c (.v (.int .i64 L.l[p.l.length].l.length))),(63,true,.c (.v (.int .i64 k)))],[],i.1,0⟩) (fun i=>PV hb i.1 b x L (.func (.func wfn) #[] cs.toArray) i.2.1 i.2.2 be1 n0 n1 fo1∧i.2.1.l=p1.l ++ [o]∧i.2.2.l=c1.l ++ [(k:Int)]) ?_ ?_
  ·refine zyW rfl ?_
   refine U_t [0,1,2,6,9,13,3,10,4,11,5,12] rfl ?_
   simp only [go_sem,jq,jj,jy,jv,jk,jx,q0,q12,q13,q14,q15,q16,q17,q19,true_or,true_and,and_true,implies_true]
   refine U_m 7 [14] ⟨?_,?_,trivial⟩
   ·refine U_b 7 0 [12,5,11,4,10,3] rfl rfl ?_
    simp only [go_sem,jq,jj,jy,jv,jk,jx,q0,q12,q13,q14,q15,q16,q17,q19,true_or,true_and,and_true,implies_true]
    refine U_m 8 [14] ⟨?_,?_,trivial⟩
    ·refine U_b 8 3 [12,11,10] rfl rfl ?_
     simp only [go_sem,jq,jj,jy,jv,jk,jx,q0,q12,q13,q14,q15,q16,q17,q19,true_or,true_and,and_true,implies_true]
     refine zCQ (s:=p1) rfl H1.rp.1 (fun g hg=>own g (H1.rp.2 g hg).1) ?_
     refine Evs ?_
     refine ⟨rfl,by simp only [maxLen];omega,by omega,fun ad cap h2 P=>?_⟩
     have P':Pub (zCO hk p1) 149 (Enc.size DOption) (p1.l ++ [o]).length ((p1.l ++ [o]).flatMap Enc.enc) ad cap h2:=by
      rw [List.length_append,List.flatMap_append];exact P
     obtain ⟨le2,kb2,rp2,oth2⟩:=zKw H1.le H1.nbx H1.rp P'
     obtain ⟨rc2,dc2⟩:=oth2 H1.rc H1.d1
     obtain ⟨rb2,db2⟩:=oth2 H1.rb H1.d2
     have nb2:h2 b ≠ none:=by rw [kb2];exact H1.nbx
     have bx2:=H1.bx
     rw [← kb2] at bx2
     obtain ⟨q0,q12,q13,q14,q15,q16,q17,q19⟩:=zKx bx2
     rw [show Value.slice ad (p1.l.length+1) cap=(Sl.mk ad cap (p1.l ++ [o])).val from by simp only [Sl.val,List.length_append,List.length_singleton]]
     try simp only [go_sem,jq,jj,jy,jv,jk,jx,q0,q12,q13,q14,q15,q16,q17,q19,true_or,true_and,and_true,implies_true]
     refine U_1 14 0 [12,11,10] rfl rfl ?_
     simp only [go_sem,jq,jj,jy,jv,jk,jx,q0,q12,q13,q14,q15,q16,q17,q19,true_or,true_and,and_true,implies_true]
     refine U_1 15 3 [] rfl rfl ?_
     simp only [go_sem,jq,jj,jy,jv,jk,jx,q0,q12,q13,q14,q15,q16,q17,q19,true_or,true_and,and_true,implies_true]
     refine zCQ (s:=c1) rfl rc2.1 (fun g hg=>own g (rc2.2 g hg).1) ?_
     refine Evs ?_
     refine ⟨rfl,by simp only [maxLen];omega,by omega,fun ad2 cap2 h3 P2=>?_⟩
     have P2':Pub (zCO h2 c1) 3 (Enc.size Int) (c1.l ++ [(k:Int)]).length ((c1.l ++ [(k:Int)]).flatMap Enc.enc) ad2 cap2 h3:=by
      rw [List.length_append,List.flatMap_append];exact P2
     obtain ⟨le3,kb3,rc3,oth3⟩:=zKw le2 nb2 rc2 P2'
     obtain ⟨rp3,dp3⟩:=oth3 rp2 dc2.symm
     obtain ⟨rb3,db3⟩:=oth3 rb2 H1.d3
     have bx3:=bx2
     rw [← kb3] at bx3
     obtain ⟨q0,q12,q13,q14,q15,q16,q17,q19⟩:=zKx bx3
     rw [show Value.slice ad2 (c1.l.length+1) cap2=(Sl.mk ad2 cap2 (c1.l ++ [(k:Int)])).val from by simp only [Sl.val,List.length_append,List.length_singleton]]
     try simp only [go_sem,jq,jj,jy,jv,jk,jx,q0,q12,q13,q14,q15,q16,q17,q19,true_or,true_and,and_true,implies_true]
     refine U_t [16,17] rfl ?_
     simp only [go_sem,jq,jj,jy,jv,jk,jx,q0,q12,q13,q14,q15,q16,q17,q19,true_or,true_and,and_true,implies_true]
     refine U_1 18 1 [] rfl rfl ?_
     simp only [go_sem,jq,jj,jy,jv,jk,jx,q0,q12,q13,q14,q15,q16,q17,q19,true_or,true_and,and_true,implies_true]
     refine zKy (xs':=plC x L (.func (.func wfn) #[] cs.toArray) (Sl.mk ad cap (p1.l ++ [o])) c1 be1 n0 n1 fo1) (by simp only [go_sem]) (by simp only [go_sem]) rfl rfl bx3 (own b H.nb) (by simp [plC]) rfl ?_
     refine Evs ?_
     refine U_t [19,20] rfl ?_
     simp only [go_sem,jq,jj,jy,jv,jk,jx,q0,q12,q13,q14,q15,q16,q17,q19,true_or,true_and,and_true,implies_true]
     refine U_1 21 1 [] rfl rfl ?_
     simp only [go_sem,jq,jj,jy,jv,jk,jx,q0,q12,q13,q14,q15,q16,q17,q19,true_or,true_and,and_true,implies_true]
     refine zKy (xs':=plC x L (.func (.func wfn) #[] cs.toArray) (Sl.mk ad cap (p1.l ++ [o])) (Sl.mk ad2 cap2 (c1.l ++ [(k:Int)])) be1 n0 n1 fo1) (by simp only [go_sem]) (by simp only [go_sem]) rfl rfl Hp.ins_same (own b H.nb) (by simp [plC]) rfl ?_
     refine Evs ?_
     rw [Hp.ins_ins]
     refine U_d ?_
     refine ⟨(_,Sl.mk ad cap (p1.l ++ [o]),Sl.mk ad2 cap2 (c1.l ++ [(k:Int)])),[],⟨PV.mk2 H1 le3 rp3 (fun y hy=>?_) rc3 rb3 dp3.symm db2 db3,rfl,rfl⟩,?_⟩
     ·rcases List.mem_append.1 hy with hy|hy
      ·exact H1.op y hy
      ·rw [List.mem_singleton.1 hy];exact hok0
     refine Evs ?_
     exact Gk
    ·refine U_b 14 0 [12,5,11,4,10,3] rfl rfl ?_
     simp only [go_sem,jq,jj,jy,jv,jk,jx,q0,q12,q13,q14,q15,q16,q17,q19,true_or,true_and,and_true,implies_true]
     refine U_1 8 3 [12,11,10] rfl rfl ?_
     simp only [go_sem,jq,jj,jy,jv,jk,jx,q0,q12,q13,q14,q15,q16,q17,q19,true_or,true_and,and_true,implies_true]
     refine zCQ (s:=p1) rfl H1.rp.1 (fun g hg=>own g (H1.rp.2 g hg).1) ?_
     refine Evs ?_
     refine ⟨rfl,by simp only [maxLen];omega,by omega,fun ad cap h2 P=>?_⟩
     have P':Pub (zCO hk p1) 149 (Enc.size DOption) (p1.l ++ [o]).length ((p1.l ++ [o]).flatMap Enc.enc) ad cap h2:=by
      rw [List.length_append,List.flatMap_append];exact P
     obtain ⟨le2,kb2,rp2,oth2⟩:=zKw H1.le H1.nbx H1.rp P'
     obtain ⟨rc2,dc2⟩:=oth2 H1.rc H1.d1
     obtain ⟨rb2,db2⟩:=oth2 H1.rb H1.d2
     have nb2:h2 b ≠ none:=by rw [kb2];exact H1.nbx
     have bx2:=H1.bx
     rw [← kb2] at bx2
     obtain ⟨q0,q12,q13,q14,q15,q16,q17,q19⟩:=zKx bx2
     rw [show Value.slice ad (p1.l.length+1) cap=(Sl.mk ad cap (p1.l ++ [o])).val from by simp only [Sl.val,List.length_append,List.length_singleton]]
     try simp only [go_sem,jq,jj,jy,jv,jk,jx,q0,q12,q13,q14,q15,q16,q17,q19,true_or,true_and,and_true,implies_true]
     refine U_1 15 3 [] rfl rfl ?_
     simp only [go_sem,jq,jj,jy,jv,jk,jx,q0,q12,q13,q14,q15,q16,q17,q19,true_or,true_and,and_true,implies_true]
     refine zCQ (s:=c1) rfl rc2.1 (fun g hg=>own g (rc2.2 g hg).1) ?_
     refine Evs ?_
     refine ⟨rfl,by simp only [maxLen];omega,by omega,fun ad2 cap2 h3 P2=>?_⟩
     have P2':Pub (zCO h2 c1) 3 (Enc.size Int) (c1.l ++ [(k:Int)]).length ((c1.l ++ [(k:Int)]).flatMap Enc.enc) ad2 cap2 h3:=by
      rw [List.length_append,List.flatMap_append];exact P2
     obtain ⟨le3,kb3,rc3,oth3⟩:=zKw le2 nb2 rc2 P2'
     obtain ⟨rp3,dp3⟩:=oth3 rp2 dc2.symm
     obtain ⟨rb3,db3⟩:=oth3 rb2 H1.d3
     have bx3:=bx2
     rw [← kb3] at bx3
     obtain ⟨q0,q12,q13,q14,q15,q16,q17,q19⟩:=zKx bx3
     rw [show Value.slice ad2 (c1.l.length+1) cap2=(Sl.mk ad2 cap2 (c1.l ++ [(k:Int)])).val from by simp only [Sl.val,List.length_append,List.length_singleton]]
     try simp only [go_sem,jq,jj,jy,jv,jk,jx,q0,q12,q13,q14,q15,q16,q17,q19,true_or,true_and,and_true,implies_true]
     refine U_t [16,17] rfl ?_
     simp only [go_sem,jq,jj,jy,jv,jk,jx,q0,q12,q13,q14,q15,q16,q17,q19,true_or,true_and,and_true,implies_true]
     refine U_1 18 1 [] rfl rfl ?_
     simp only [go_sem,jq,jj,jy,jv,jk,jx,q0,q12,q13,q14,q15,q16,q17,q19,true_or,true_and,and_true,implies_true]
     refine zKy (xs':=plC x L (.func (.func wfn) #[] cs.toArray) (Sl.mk ad cap (p1.l ++ [o])) c1 be1 n0 n1 fo1) (by simp only [go_sem]) (by simp only [go_sem]) rfl rfl bx3 (own b H.nb) (by simp [plC]) rfl ?_
     refine Evs ?_
     refine U_t [19,20] rfl ?_
     simp only [go_sem,jq,jj,jy,jv,jk,jx,q0,q12,q13,q14,q15,q16,q17,q19,true_or,true_and,and_true,implies_true]
     refine U_1 21 1 [] rfl rfl ?_
     simp only [go_sem,jq,jj,jy,jv,jk,jx,q0,q12,q13,q14,q15,q16,q17,q19,true_or,true_and,and_true,implies_true]
     refine zKy (xs':=plC x L (.func (.func wfn) #[] cs.toArray) (Sl.mk ad cap (p1.l ++ [o])) (Sl.mk ad2 cap2 (c1.l ++ [(k:Int)])) be1 n0 n1 fo1) (by simp only [go_sem]) (by simp only [go_sem]) rfl rfl Hp.ins_same (own b H.nb) (by simp [plC]) rfl ?_
     refine Evs ?_
     rw [Hp.ins_ins]
     refine U_d ?_
     refine ⟨(_,Sl.mk ad cap (p1.l ++ [o]),Sl.mk ad2 cap2 (c1.l ++ [(k:Int)])),[],⟨PV.mk2 H1 le3 rp3 (fun y hy=>?_) rc3 rb3 dp3.symm db2 db3,rfl,rfl⟩,?_⟩
     ·rcases List.mem_append.1 hy with hy|hy
      ·exact H1.op y hy
      ·rw [List.mem_singleton.1 hy];exact hok0
     refine Evs ?_
     exact Gk
   ·refine U_b 14 0 [12,5,11,4,10,3,6] rfl rfl ?_
    simp only [go_sem,jq,jj,jy,jv,jk,jx,q0,q12,q13,q14,q15,q16,q17,q19,true_or,true_and,and_true,implies_true]
    refine U_1 7 0 [12,5,11,4,10,3] rfl rfl ?_
    simp only [go_sem,jq,jj,jy,jv,jk,jx,q0,q12,q13,q14,q15,q16,q17,q19,true_or,true_and,and_true,implies_true]
    refine U_1 8 3 [12,11,10] rfl rfl ?_
    simp only [go_sem,jq,jj,jy,jv,jk,jx,q0,q12,q13,q14,q15,q16,q17,q19,true_or,true_and,and_true,implies_true]
    refine zCQ (s:=p1) rfl H1.rp.1 (fun g hg=>own g (H1.rp.2 g hg).1) ?_
    refine Evs ?_
    refine ⟨rfl,by simp only [maxLen];omega,by omega,fun ad cap h2 P=>?_⟩
    have P':Pub (zCO hk p1) 149 (Enc.size DOption) (p1.l ++ [o]).length ((p1.l ++ [o]).flatMap Enc.enc) ad cap h2:=by
     rw [List.length_append,List.flatMap_append];exact P
    obtain ⟨le2,kb2,rp2,oth2⟩:=zKw H1.le H1.nbx H1.rp P'
    obtain ⟨rc2,dc2⟩:=oth2 H1.rc H1.d1
    obtain ⟨rb2,db2⟩:=oth2 H1.rb H1.d2
    have nb2:h2 b ≠ none:=by rw [kb2];exact H1.nbx
    have bx2:=H1.bx
    rw [← kb2] at bx2
    obtain ⟨q0,q12,q13,q14,q15,q16,q17,q19⟩:=zKx bx2
    rw [show Value.slice ad (p1.l.length+1) cap=(Sl.mk ad cap (p1.l ++ [o])).val from by simp only [Sl.val,List.length_append,List.length_singleton]]
    try simp only [go_sem,jq,jj,jy,jv,jk,jx,q0,q12,q13,q14,q15,q16,q17,q19,true_or,true_and,and_true,implies_true]
    refine U_1 15 3 [] rfl rfl ?_
    simp only [go_sem,jq,jj,jy,jv,jk,jx,q0,q12,q13,q14,q15,q16,q17,q19,true_or,true_and,and_true,implies_true]
    refine zCQ (s:=c1) rfl rc2.1 (fun g hg=>own g (rc2.2 g hg).1) ?_
    refine Evs ?_
    refine ⟨rfl,by simp only [maxLen];omega,by omega,fun ad2 cap2 h3 P2=>?_⟩
    have P2':Pub (zCO h2 c1) 3 (Enc.size Int) (c1.l ++ [(k:Int)]).length ((c1.l ++ [(k:Int)]).flatMap Enc.enc) ad2 cap2 h3:=by
     rw [List.length_append,List.flatMap_append];exact P2
    obtain ⟨le3,kb3,rc3,oth3⟩:=zKw le2 nb2 rc2 P2'
    obtain ⟨rp3,dp3⟩:=oth3 rp2 dc2.symm
    obtain ⟨rb3,db3⟩:=oth3 rb2 H1.d3
    have bx3:=bx2
    rw [← kb3] at bx3
    obtain ⟨q0,q12,q13,q14,q15,q16,q17,q19⟩:=zKx bx3
    rw [show Value.slice ad2 (c1.l.length+1) cap2=(Sl.mk ad2 cap2 (c1.l ++ [(k:Int)])).val from by simp only [Sl.val,List.length_append,List.length_singleton]]
    try simp only [go_sem,jq,jj,jy,jv,jk,jx,q0,q12,q13,q14,q15,q16,q17,q19,true_or,true_and,and_true,implies_true]
    refine U_t [16,17] rfl ?_
    simp only [go_sem,jq,jj,jy,jv,jk,jx,q0,q12,q13,q14,q15,q16,q17,q19,true_or,true_and,and_true,implies_true]
    refine U_1 18 1 [] rfl rfl ?_
    simp only [go_sem,jq,jj,jy,jv,jk,jx,q0,q12,q13,q14,q15,q16,q17,q19,true_or,true_and,and_true,implies_true]
    refine zKy (xs':=plC x L (.func (.func wfn) #[] cs.toArray) (Sl.mk ad cap (p1.l ++ [o])) c1 be1 n0 n1 fo1) (by simp only [go_sem]) (by simp only [go_sem]) rfl rfl bx3 (own b H.nb) (by simp [plC]) rfl ?_
    refine Evs ?_
    refine U_t [19,20] rfl ?_
    simp only [go_sem,jq,jj,jy,jv,jk,jx,q0,q12,q13,q14,q15,q16,q17,q19,true_or,true_and,and_true,implies_true]
    refine U_1 21 1 [] rfl rfl ?_
    simp only [go_sem,jq,jj,jy,jv,jk,jx,q0,q12,q13,q14,q15,q16,q17,q19,true_or,true_and,and_true,implies_true]
    refine zKy (xs':=plC x L (.func (.func wfn) #[] cs.toArray) (Sl.mk ad cap (p1.l ++ [o])) (Sl.mk ad2 cap2 (c1.l ++ [(k:Int)])) be1 n0 n1 fo1) (by simp only [go_sem]) (by simp only [go_sem]) rfl rfl Hp.ins_same (own b H.nb) (by simp [plC]) rfl ?_
    refine Evs ?_
    rw [Hp.ins_ins]
    refine U_d ?_
    refine ⟨(_,Sl.mk ad cap (p1.l ++ [o]),Sl.mk ad2 cap2 (c1.l ++ [(k:Int)])),[],⟨PV.mk2 H1 le3 rp3 (fun y hy=>?_) rc3 rb3 dp3.symm db2 db3,rfl,rfl⟩,?_⟩
    ·rcases List.mem_append.1 hy with hy|hy
     ·exact H1.op y hy
     ·rw [List.mem_singleton.1 hy];exact hok0
    refine Evs ?_
    exact Gk
  rintro ⟨h5,p5,c5⟩ ⟨H5,ep5,ec5⟩
  simp only at H5 ep5 ec5
  first|refine zyi [0,1] rfl ?_|refine zyh [0,1] rfl ?_|(refine zc3 ?_;first|refine zyi [0,1] rfl ?_|refine zyh [0,1] rfl ?_)
  refine Evs ?_
  refine zlJ (ih (f - 1) (by omega) (pn ++ [k]) p5 c5 be1 n0 n1 fo1 _ h5 H5 hB1 (by rw [ep5,List.length_append,List.length_singleton];omega) (by rw [ec5,ec1,hch];simp [zs]) (by rw [ep5,List.length_append,List.length_append,List.length_singleton,List.length_singleton];omega) (fun y hy=>?_) (fun y hy=>?_)) rfl (fun g hg=>⟨hg.2,own g hg.1⟩) ?_
  ·rw [ep5] at hy
   rcases List.mem_append.1 hy with hy|hy
   ·exact hpg y (by rw [← ep1];exact hy)
   ·rw [List.mem_singleton.1 hy];exact hog
  ·rcases List.mem_append.1 hy with hy|hy
   ·exact hpb y hy
   ·rw [List.mem_singleton.1 hy];omega
  rintro v h6 kp ⟨p6,c6,be6,m06,m16,fo6,H6,ep6,ec6,hB6⟩
  obtain ⟨q0,q12,q13,q14,q15,q16,q17,q19⟩:=zKx H6.bx
  have hp6l:p6.l.length=p.l.length+1:=by rw [ep6,ep5,List.length_append,List.length_singleton,hp1l]
  have hc6l:c6.l.length=p.l.length+1:=by rw [ec6,ec5,List.length_append,List.length_singleton,hc1l]
  have hp6c:=H6.rp.1.1
  have hc6c:=H6.rc.1.1
  refine Wk ?_
  refine zyW rfl ?_
  refine U_t [0,1,2,6,8,12,3,9,4,10,5,11] rfl ?_
  simp only [go_sem,jq,jj,jy,jv,jk,jx,q0,q12,q13,q14,q15,q16,q17,q19,true_or,true_and,and_true,implies_true,Int.toNat_zero,Nat.zero_mul,zx1,zx2,ite_self,Nat.sub_zero,jW]
  refine U_m 7 [13] ⟨?_,?_,trivial⟩
  ·refine U_b 7 0 [11,10,9] rfl rfl ?_
   simp only [go_sem,jq,jj,jy,jv,jk,jx,q0,q12,q13,q14,q15,q16,q17,q19,true_or,true_and,and_true,implies_true,Int.toNat_zero,Nat.zero_mul,zx1,zx2,ite_self,Nat.sub_zero,jW]
   refine ⟨by omega,?_⟩
   rw [zx3 (by omega)]
   try simp only [go_sem,jq,jj,jy,jv,jk,jx,q0,q12,q13,q14,q15,q16,q17,q19,true_or,true_and,and_true,implies_true,Int.toNat_zero,Nat.zero_mul,zx1,zx2,ite_self,Nat.sub_zero,jW]
   refine U_t [14,15] rfl ?_
   simp only [go_sem,jq,jj,jy,jv,jk,jx,q0,q12,q13,q14,q15,q16,q17,q19,true_or,true_and,and_true,implies_true,Int.toNat_zero,Nat.zero_mul,zx1,zx2,ite_self,Nat.sub_zero,jW]
   refine U_m 13 [16] ⟨?_,?_,trivial⟩
   ·refine U_b 13 0 [15,14] rfl rfl ?_
    simp only [go_sem,jq,jj,jy,jv,jk,jx,q0,q12,q13,q14,q15,q16,q17,q19,true_or,true_and,and_true,implies_true,Int.toNat_zero,Nat.zero_mul,zx1,zx2,ite_self,Nat.sub_zero,jW]
    refine ⟨by omega,?_⟩
    rw [zx3 (by omega)]
    try simp only [go_sem,jq,jj,jy,jv,jk,jx,q0,q12,q13,q14,q15,q16,q17,q19,true_or,true_and,and_true,implies_true,Int.toNat_zero,Nat.zero_mul,zx1,zx2,ite_self,Nat.sub_zero,jW]
    refine U_1 16 1 [] rfl rfl ?_
    simp only [go_sem,jq,jj,jy,jv,jk,jx,q0,q12,q13,q14,q15,q16,q17,q19,true_or,true_and,and_true,implies_true,Int.toNat_zero,Nat.zero_mul,zx1,zx2,ite_self,Nat.sub_zero,jW]
    refine zKy (xs':=plC x L (.func (.func wfn) #[] cs.toArray) (p6.to p.l.length) c6 be6 m06 m16 fo6) (by simp only [go_sem]) (by simp only [go_sem]) rfl rfl H6.bx (own b H.nb) (by simp [plC]) rfl ?_
    obtain ⟨q0,q12,q13,q14,q15,q16,q17,q19⟩:=zKx (h:=h6.ins b (.cells (plC x L (.func (.func wfn) #[] cs.toArray) (p6.to p.l.length) c6 be6 m06 m16 fo6).toArray 191 (0,0))) Hp.ins_same
    try simp only [go_sem,jq,jj,jy,jv,jk,jx,q0,q12,q13,q14,q15,q16,q17,q19,true_or,true_and,and_true,implies_true,Int.toNat_zero,Nat.zero_mul,zx1,zx2,ite_self,Nat.sub_zero,jW]
    refine U_t [17,18] rfl ?_
    simp only [go_sem,jq,jj,jy,jv,jk,jx,q0,q12,q13,q14,q15,q16,q17,q19,true_or,true_and,and_true,implies_true,Int.toNat_zero,Nat.zero_mul,zx1,zx2,ite_self,Nat.sub_zero,jW]
    refine U_1 19 1 [] rfl rfl ?_
    simp only [go_sem,jq,jj,jy,jv,jk,jx,q0,q12,q13,q14,q15,q16,q17,q19,true_or,true_and,and_true,implies_true,Int.toNat_zero,Nat.zero_mul,zx1,zx2,ite_self,Nat.sub_zero,jW]
    refine zKy (xs':=plC x L (.func (.func wfn) #[] cs.toArray) (p6.to p.l.length) (c6.to p.l.length) be6 m06 m16 fo6) (by simp only [go_sem]) (by simp only [go_sem]) rfl rfl Hp.ins_same (own b H.nb) (by simp [plC]) rfl ?_
    refine Evs ?_
    rw [Hp.ins_ins]
    refine U_d ?_
    refine Wk ?_
    refine ⟨(k+1,_,p6.to p.l.length,c6.to p.l.length,be6,m06,m16,fo6),[],⟨hlt,PV.mk2 H6 H6.le (H6.rp.cut (by omega)) (fun y hy=>H6.op y (List.mem_of_mem_take hy)) (H6.rc.cut (by omega)) H6.rb H6.d1 H6.d2 H6.d3,?_,?_,?_⟩,by simp only;omega,?_⟩
    ·show p6.l.take p.l.length=p.l
     rw [ep6,ep5,ep1]
     exact List.take_left' rfl
    ·show c6.l.take p.l.length=ch.l
     rw [ec6,ec5,ec1]
     exact List.take_left' (by rw [hch,zHW,hpn])
    ·simp only
     rw [List.range_succ,List.foldl_append,List.foldl_cons,List.foldl_nil,hstep,if_pos hq]
     have hB7:=hB6
     rw [show p5.l.length=p.l.length+1 by rw [ep5,List.length_append,List.length_singleton,hp1l],ep5,ep1,List.map_append,List.map_cons,List.map_nil] at hB7
     exact hB7
    refine Evs ?_
    exact Gi (zjA hlt (by omega))
   ·refine U_b 16 1 [] rfl rfl ?_
    simp only [go_sem,jq,jj,jy,jv,jk,jx,q0,q12,q13,q14,q15,q16,q17,q19,true_or,true_and,and_true,implies_true,Int.toNat_zero,Nat.zero_mul,zx1,zx2,ite_self,Nat.sub_zero,jW]
    refine zKy (xs':=plC x L (.func (.func wfn) #[] cs.toArray) (p6.to p.l.length) c6 be6 m06 m16 fo6) (by simp only [go_sem]) (by simp only [go_sem]) rfl rfl H6.bx (own b H.nb) (by simp [plC]) rfl ?_
    obtain ⟨q0,q12,q13,q14,q15,q16,q17,q19⟩:=zKx (h:=h6.ins b (.cells (plC x L (.func (.func wfn) #[] cs.toArray) (p6.to p.l.length) c6 be6 m06 m16 fo6).toArray 191 (0,0))) Hp.ins_same
    try simp only [go_sem,jq,jj,jy,jv,jk,jx,q0,q12,q13,q14,q15,q16,q17,q19,true_or,true_and,and_true,implies_true,Int.toNat_zero,Nat.zero_mul,zx1,zx2,ite_self,Nat.sub_zero,jW]
    refine U_1 13 0 [] rfl rfl ?_
    simp only [go_sem,jq,jj,jy,jv,jk,jx,q0,q12,q13,q14,q15,q16,q17,q19,true_or,true_and,and_true,implies_true,Int.toNat_zero,Nat.zero_mul,zx1,zx2,ite_self,Nat.sub_zero,jW]
    refine ⟨by omega,?_⟩
    rw [zx3 (by omega)]
    try simp only [go_sem,jq,jj,jy,jv,jk,jx,q0,q12,q13,q14,q15,q16,q17,q19,true_or,true_and,and_true,implies_true,Int.toNat_zero,Nat.zero_mul,zx1,zx2,ite_self,Nat.sub_zero,jW]
    refine U_t [17,18] rfl ?_
    simp only [go_sem,jq,jj,jy,jv,jk,jx,q0,q12,q13,q14,q15,q16,q17,q19,true_or,true_and,and_true,implies_true,Int.toNat_zero,Nat.zero_mul,zx1,zx2,ite_self,Nat.sub_zero,jW]
    refine U_1 19 1 [] rfl rfl ?_
    simp only [go_sem,jq,jj,jy,jv,jk,jx,q0,q12,q13,q14,q15,q16,q17,q19,true_or,true_and,and_true,implies_true,Int.toNat_zero,Nat.zero_mul,zx1,zx2,ite_self,Nat.sub_zero,jW]
    refine zKy (xs':=plC x L (.func (.func wfn) #[] cs.toArray) (p6.to p.l.length) (c6.to p.l.length) be6 m06 m16 fo6) (by simp only [go_sem]) (by simp only [go_sem]) rfl rfl Hp.ins_same (own b H.nb) (by simp [plC]) rfl ?_
    refine Evs ?_
    rw [Hp.ins_ins]
    refine U_d ?_
    refine Wk ?_
    refine ⟨(k+1,_,p6.to p.l.length,c6.to p.l.length,be6,m06,m16,fo6),[],⟨hlt,PV.mk2 H6 H6.le (H6.rp.cut (by omega)) (fun y hy=>H6.op y (List.mem_of_mem_take hy)) (H6.rc.cut (by omega)) H6.rb H6.d1 H6.d2 H6.d3,?_,?_,?_⟩,by simp only;omega,?_⟩
    ·show p6.l.take p.l.length=p.l
     rw [ep6,ep5,ep1]
     exact List.take_left' rfl
    ·show c6.l.take p.l.length=ch.l
     rw [ec6,ec5,ec1]
     exact List.take_left' (by rw [hch,zHW,hpn])
    ·simp only
     rw [List.range_succ,List.foldl_append,List.foldl_cons,List.foldl_nil,hstep,if_pos hq]
     have hB7:=hB6
     rw [show p5.l.length=p.l.length+1 by rw [ep5,List.length_append,List.length_singleton,hp1l],ep5,ep1,List.map_append,List.map_cons,List.map_nil] at hB7
     exact hB7
    refine Evs ?_
    exact Gi (zjA hlt (by omega))
  ·refine U_b 13 0 [5,4,3] rfl rfl ?_
   simp only [go_sem,jq,jj,jy,jv,jk,jx,q0,q12,q13,q14,q15,q16,q17,q19,true_or,true_and,and_true,implies_true,Int.toNat_zero,Nat.zero_mul,zx1,zx2,ite_self,Nat.sub_zero,jW]
   refine ⟨by omega,?_⟩
   rw [zx3 (by omega)]
   try simp only [go_sem,jq,jj,jy,jv,jk,jx,q0,q12,q13,q14,q15,q16,q17,q19,true_or,true_and,and_true,implies_true,Int.toNat_zero,Nat.zero_mul,zx1,zx2,ite_self,Nat.sub_zero,jW]
   refine U_1 7 0 [] rfl rfl ?_
   simp only [go_sem,jq,jj,jy,jv,jk,jx,q0,q12,q13,q14,q15,q16,q17,q19,true_or,true_and,and_true,implies_true,Int.toNat_zero,Nat.zero_mul,zx1,zx2,ite_self,Nat.sub_zero,jW]
   refine ⟨by omega,?_⟩
   rw [zx3 (by omega)]
   try simp only [go_sem,jq,jj,jy,jv,jk,jx,q0,q12,q13,q14,q15,q16,q17,q19,true_or,true_and,and_true,implies_true,Int.toNat_zero,Nat.zero_mul,zx1,zx2,ite_self,Nat.sub_zero,jW]
   refine U_t [14,15] rfl ?_
   simp only [go_sem,jq,jj,jy,jv,jk,jx,q0,q12,q13,q14,q15,q16,q17,q19,true_or,true_and,and_true,implies_true,Int.toNat_zero,Nat.zero_mul,zx1,zx2,ite_self,Nat.sub_zero,jW]
   refine U_1 16 1 [] rfl rfl ?_
   simp only [go_sem,jq,jj,jy,jv,jk,jx,q0,q12,q13,q14,q15,q16,q17,q19,true_or,true_and,and_true,implies_true,Int.toNat_zero,Nat.zero_mul,zx1,zx2,ite_self,Nat.sub_zero,jW]
   refine zKy (xs':=plC x L (.func (.func wfn) #[] cs.toArray) (p6.to p.l.length) c6 be6 m06 m16 fo6) (by simp only [go_sem]) (by simp only [go_sem]) rfl rfl H6.bx (own b H.nb) (by simp [plC]) rfl ?_
   obtain ⟨q0,q12,q13,q14,q15,q16,q17,q19⟩:=zKx (h:=h6.ins b (.cells (plC x L (.func (.func wfn) #[] cs.toArray) (p6.to p.l.length) c6 be6 m06 m16 fo6).toArray 191 (0,0))) Hp.ins_same
   try simp only [go_sem,jq,jj,jy,jv,jk,jx,q0,q12,q13,q14,q15,q16,q17,q19,true_or,true_and,and_true,implies_true,Int.toNat_zero,Nat.zero_mul,zx1,zx2,ite_self,Nat.sub_zero,jW]
   refine U_t [17,18] rfl ?_
   simp only [go_sem,jq,jj,jy,jv,jk,jx,q0,q12,q13,q14,q15,q16,q17,q19,true_or,true_and,and_true,implies_true,Int.toNat_zero,Nat.zero_mul,zx1,zx2,ite_self,Nat.sub_zero,jW]
   refine U_1 19 1 [] rfl rfl ?_
   simp only [go_sem,jq,jj,jy,jv,jk,jx,q0,q12,q13,q14,q15,q16,q17,q19,true_or,true_and,and_true,implies_true,Int.toNat_zero,Nat.zero_mul,zx1,zx2,ite_self,Nat.sub_zero,jW]
   refine zKy (xs':=plC x L (.func (.func wfn) #[] cs.toArray) (p6.to p.l.length) (c6.to p.l.length) be6 m06 m16 fo6) (by simp only [go_sem]) (by simp only [go_sem]) rfl rfl Hp.ins_same (own b H.nb) (by simp [plC]) rfl ?_
   refine Evs ?_
   rw [Hp.ins_ins]
   refine U_d ?_
   refine Wk ?_
   refine ⟨(k+1,_,p6.to p.l.length,c6.to p.l.length,be6,m06,m16,fo6),[],⟨hlt,PV.mk2 H6 H6.le (H6.rp.cut (by omega)) (fun y hy=>H6.op y (List.mem_of_mem_take hy)) (H6.rc.cut (by omega)) H6.rb H6.d1 H6.d2 H6.d3,?_,?_,?_⟩,by simp only;omega,?_⟩
   ·show p6.l.take p.l.length=p.l
    rw [ep6,ep5,ep1]
    exact List.take_left' rfl
   ·show c6.l.take p.l.length=ch.l
    rw [ec6,ec5,ec1]
    exact List.take_left' (by rw [hch,zHW,hpn])
   ·simp only
    rw [List.range_succ,List.foldl_append,List.foldl_cons,List.foldl_nil,hstep,if_pos hq]
    have hB7:=hB6
    rw [show p5.l.length=p.l.length+1 by rw [ep5,List.length_append,List.length_singleton,hp1l],ep5,ep1,List.map_append,List.map_cons,List.map_nil] at hB7
    exact hB7
   refine Evs ?_
   exact Gi (zjA hlt (by omega))
 ·have hge:=zjI hd
  obtain rfl:k=L.l[p.l.length].l.length:=by omega
  refine Wk ?_
  refine ⟨p1,c1,be1,n0,n1,fo1,H1,ep1,ec1,?_⟩
  rw [zKJ hi,srW,if_neg (by rw [hq];exact Bool.false_ne_true),List.length_map]
  exact hB1
def BSS (st:BSt) (be:Sl Int) (m:Int) (fo:Bool):Prop:=match st with
 | none=>fo=false
 | some (w,c)=>fo=true∧be.l=zs w∧m=c
theorem zKM {st:BSt} {be:Sl Int} {m c:Int} {fo:Bool} (h:BSS st be m fo):(fo && decide (m≤c))=cut st c:=by
 cases st with
 | none=>rw [show fo=false from h];rfl
 | some s =>
  obtain ⟨w',c'⟩:=s
  obtain ⟨rfl,-,rfl⟩:=h
  rw [cut,Bool.true_and]
def skC (x:DHarbour) (L:Sl (Sl DOption)) (cx:Sl (Sl (Sl (Sl Bool)))) (rs be:Sl Int) (m:Int) (fo:Bool):List Value:=[.int .i64 x.forecast.tide.mean,x.forecast.tide.parts.val,x.forecast.surges.val,x.chart.points.val,x.chart.segments.val,x.fleet.val,.int .i64 x.regime.gap,.bool x.regime.noMeet,.int .i64 x.crew.tugs,.int .i64 x.crew.pilots,.int .i64 x.crew.rest,x.crew.moves.val,L.val,cx.val,rs.val,be.val,.int .i64 m,.bool fo]
structure SK (hb h:Hp) (b:Nat) (x:DHarbour) (L:Sl (Sl DOption)) (cx:Sl (Sl (Sl (Sl Bool)))) (rs be:Sl Int) (m:Int) (fo:Bool):Prop where
 le:hb.le h
 ox:Enc.ok hb x
 oL:L.Ok hb
 oc:cx.Ok hb
 ors:rs.Ok hb
 nb:hb b=none
 bx:h b=some (.cells (skC x L cx rs be m fo).toArray 221 (0,0))
 rb:RowF 3 hb h b be
section
variable {hb h h2:Hp} {b:Nat} {x:DHarbour} {L:Sl (Sl DOption)} {cx:Sl (Sl (Sl (Sl Bool)))} {rs be be':Sl Int} {m m':Int} {fo fo':Bool}
theorem zKN (H:h b=some (.cells (skC x L cx rs be m fo).toArray 221 (0,0))):h.lds (some ⟨b,3,none⟩) 2=some [x.chart.points.val,x.chart.segments.val]∧h.lds (some ⟨b,5,none⟩) 1=some [x.fleet.val]∧h.lds (some ⟨b,8,none⟩) 4=some [.int .i64 x.crew.tugs,.int .i64 x.crew.pilots,.int .i64 x.crew.rest,x.crew.moves.val]∧h.lds (some ⟨b,12,none⟩) 1=some [L.val]∧h.lds (some ⟨b,13,none⟩) 1=some [cx.val]∧h.lds (some ⟨b,14,none⟩) 1=some [rs.val]∧h.lds (some ⟨b,15,none⟩) 1=some [be.val]∧h.lds (some ⟨b,16,none⟩) 1=some [.int .i64 m]∧h.lds (some ⟨b,17,none⟩) 1=some [.bool fo]:=by
 unfold skC at H
 refine ⟨?_,?_,?_,?_,?_,?_,?_,?_,?_⟩ <;> exact zx7 H rfl (by simp)
theorem SK.nbx (H:SK hb h b x L cx rs be m fo):h b ≠ none:=by rw [H.bx];exact fun e=>by cases e
theorem SK.grow (H:SK hb h b x L cx rs be m fo) (hle:h.le h2):SK hb h2 b x L cx rs be m fo :=
 ⟨Hp.le_trans H.le hle,H.ox,H.oL,H.oc,H.ors,H.nb,hle _ _ H.bx,H.rb.grow hle⟩
theorem SK.mk2 (H:SK hb h b x L cx rs be m fo) (hle:hb.le h2) (rb:RowF 3 hb h2 b be') :
  SK hb (h2.ins b (.cells (skC x L cx rs be' m' fo').toArray 221 (0,0))) b x L cx rs be' m' fo':=by
 refine ⟨fun k o hk=>?_,H.ox,H.oL,H.oc,H.ors,H.nb,Hp.ins_same,rb.ins⟩
 rw [Hp.ins_ne (fun e=>by subst e;rw [H.nb] at hk;cases hk)]
 exact hle k o hk
end
theorem zKO {h:Hp} {b:Nat}:(h.del b).le h:=fun k o hk=>by
 simp only [Hp.del] at hk
 split at hk
 ·cases hk
 ·exact hk
theorem zKP {h h2:Hp} {b:Nat} (hle:∀ k o,h k=some o→¬ k=b→h2 k=some o):(h.del b).le (h2.del b):=fun k o hk=>by
 simp only [Hp.del] at hk ⊢
 split at hk
 ·cases hk
 ·rename_i hne;rw [if_neg hne];exact hle k o hk hne
theorem RowF.del {α:Type} [Enc α] {e:TypeId} {hb h:Hp} {b:Nat} {s:Sl α} (H:RowF e hb h b s):RowAt e (h.del b) s:=H.1.keep fun g hg=>by
 simp only [Hp.del]
 rw [if_neg (H.2 g hg).2]
def PR (L:List (Sl DOption)) (pn:List Nat) (p:List DOption):Prop:=p.length=pn.length∧∀ i (hi:i < pn.length) (hi2:i < p.length),∃ (h1:i < L.length) (h2:pn[i] < L[i].l.length),p[i]=L[i].l[pn[i]]
theorem PR.snoc {L:List (Sl DOption)} {pn:List Nat} {p:List DOption} (H:PR L pn p) {n:Nat} (h1:pn.length < L.length) (h2:n < L[pn.length].l.length):PR L (pn ++ [n]) (p ++ [L[pn.length].l[n]]):=by
 refine ⟨by rw [List.length_append,List.length_append,H.1];rfl,fun i hi hi2=>?_⟩
 rw [List.length_append,List.length_singleton] at hi hi2
 rcases Nat.lt_or_ge i pn.length with h|h
 ·obtain ⟨a1,a2,a3⟩:=H.2 i h (by rw [H.1];exact h)
  refine ⟨a1,?_,?_⟩
  ·rw [List.getElem_append_left h];exact a2
  ·rw [List.getElem_append_left (by rw [H.1];exact h),a3]
   simp only [List.getElem_append_left h]
 ·obtain rfl:i=pn.length:=by omega
  refine ⟨h1,?_,?_⟩
  ·simpa using h2
  ·have e1:(p ++ [L[pn.length].l[n]])[pn.length]'(by rw [List.length_append,H.1,List.length_singleton];omega)=L[pn.length].l[n]:=by
    rw [List.getElem_append_right (by rw [H.1];exact Nat.le_refl _)]
    simp
   rw [e1]
   simp
theorem zKQ {l:List POption} (h:∀ y ∈ l,0≤y.cost∧y.cost≤2880):0≤sumC l∧sumC l≤2880 * l.length:=by
 induction l with
 | nil=>simp [sumC]
 | cons o l ih =>
  obtain ⟨c0,c1⟩:=h o (List.mem_cons_self ..)
  obtain ⟨d0,d1⟩:=ih fun y hy=>h y (List.mem_cons_of_mem _ hy)
  have e:sumC (o :: l)=o.cost+sumC l:=by simp [sumC]
  rw [e,List.length_cons]
  push_cast
  omega
noncomputable def zKR (x:PHarbour) (L:List (List POption)) (l p:List POption) (ch:List Nat) (st:BSt) (k:Nat):BSt:=if zJS x p (l.getD k zFE)=true then srS x L (p ++ [l.getD k zFE]) (ch ++ [k]) st else st
set_option maxRecDepth 30000 in
theorem zKS (hb:Hp) (b:Nat) (x:DHarbour) (L:Sl (Sl DOption)) (cx:Sl (Sl (Sl (Sl Bool)))) (rs:Sl Int) (hL6:L.l.length≤6) (hLn:∀ l ∈ L.l,l.l.length≤90) (hLg:∀ l ∈ L.l,∀ y ∈ l.l,0≤y.cost∧y.cost≤2880∧Sz.sz (Con.con y)≤8)
  (hcx:con4 cx=zKE (cl x) L.l) (hrl:rs.l.length=L.l.length+1) (hrs:∀ i (hi:i < rs.l.length),rs.l[i]=zJ5 ((LL L).drop i)) (hrb:∀ i,0≤zJ5 ((LL L).drop i)∧zJ5 ((LL L).drop i)≤100000) :
  ∀ (f:Nat) (pn:List Nat) (p:List DOption) (cho be:Sl Int) (m:Int) (fo:Bool) (st:BSt) (h:Hp),SK hb h b x L cx rs be m fo→BSS st be m fo→cho.Ok (h.del b)→cho.l=zs pn→pn.length+f=L.l.length→PR L.l pn p →
   Cw jV 164 [.pointer (some ⟨b,0,none⟩),cho.val,.int .i64 (sumC (p.map Con.con))] h (fun k=>k=b) fun v h'=>∃ (be':Sl Int) (m':Int) (fo':Bool),SK hb h' b x L cx rs be' m' fo'∧BSS (srS (Con.con x) ((LL L).drop pn.length) (p.map Con.con) pn st) be' m' fo':=by
 intro f
 induction f using Nat.strongRecOn with
 | _ f ih =>
 intro pn p cho be m fo st h H hst hcho hcl hlen hp
 obtain ⟨q3,q5,q8,q12,q13,q14,q15,q16,q17⟩:=zKN H.bx
 have hx:=Enc.mono H.le H.ox
 have hLo:=H.oL.mono H.le
 have hLm:=hLo.max
 have rsk:=H.ors.mono H.le
 have cok:=hcho.mono zKO
 have hcll:cho.l.length=pn.length:=by rw [hcl,zHW]
 have hpl:=hp.1
 have hpm:∀ y ∈ p,0≤y.cost∧y.cost≤2880∧Sz.sz (Con.con y)≤8:=fun y hy=>by
  obtain ⟨i,hi,rfl⟩:=List.getElem_of_mem hy
  obtain ⟨a1,a2,a3⟩:=hp.2 i (by omega) hi
  rw [a3]
  exact hLg _ (List.getElem_mem a1) _ (List.getElem_mem a2)
 have hpc:0≤sumC (p.map Con.con)∧sumC (p.map Con.con)≤2880 * p.length:=by
  have:=zKQ (l:=p.map (Con.con (α:=DOption))) fun y hy=>by
   obtain ⟨z,hz,rfl⟩:=List.mem_map.1 hy
   exact ⟨(hpm z hz).1,(hpm z hz).2.1⟩
  rwa [List.length_map] at this
 have hri:pn.length < rs.l.length:=by omega
 have hrii:(pn.length:Int) < rs.l.length:=by omega
 have hrv:=hrs _ hri
 have hrbb:=hrb pn.length
 have hwr:IntKind.i64.wrap (sumC (p.map (Con.con (α:=DOption)))+rs.l[pn.length])=sumC (p.map Con.con)+zJ5 ((LL L).drop pn.length):=by rw [hrv,zjz (by omega)]
 refine zlI (fun A W=>by simp) Tryz.func164 rfl rfl (by simp)  (fun k hk=>by rw [hk];exact H.nbx) fun W0 hW=>?_
 have own:W0.own b:=hW b rfl
 repeat' first|refine Wa ?_|(simp only [go_sem,jq,jj,jy,jv,jk,jx,hcll];try rfl)|refine Wb ?_|fail
 refine zyW rfl ?_
 refine U_t [0,1,2,3,4,5,6,10,14,7,15,8,16,9,17,11,12,13,18,19] rfl ?_
 simp only [go_sem,jq,jj,jy,jv,jk,jx,q3,q5,q8,q12,q13,q14,q15,q16,q17,true_or,true_and,and_true,implies_true,rsk.some hri,atI rsk hri,hri,hrii,hwr,jW,jY]
 refine U_d ?_
 have hcut:=zKM (c:=sumC (p.map Con.con)+zJ5 ((LL L).drop pn.length)) hst
 refine zc9 rfl (fun hq=>?_) (fun hq=>?_)
 ·rw [hcut] at hq
  refine Wk ?_
  refine ⟨be,m,fo,H,?_⟩
  have hs:srS (Con.con x) ((LL L).drop pn.length) (p.map Con.con) pn st=st:=by
   cases hc:(LL L).drop pn.length with
   | nil=>rw [hc,zJ5,Int.add_zero] at hq;rw [srS,if_pos hq]
   | cons l M=>rw [hc] at hq;rw [srS,if_pos hq]
  rw [hs]
  exact hst
 rw [hcut] at hq
 repeat' first|refine Wa ?_|(simp only [go_sem,jq,jj,jy,jv,jk,jx,q3,q5,q8,q12,q13,q14,q15,q16,q17,true_or,true_and,and_true,implies_true];try rfl)|refine Wb ?_|fail
 refine zc9 rfl (fun hy=>?_) (fun hy=>?_)
 ·have hy:pn.length=L.l.length:=by have:=eq_of_beq hy;omega
  have hnil:(LL L).drop pn.length=[]:=List.drop_of_length_le (by rw [LL,List.length_map];omega)
  rw [hnil,zJ5,Int.add_zero] at hq
  have hs:srS (Con.con x) ((LL L).drop pn.length) (p.map Con.con) pn st=if zIU (Con.con x).crew (Con.con x).chart (Con.con x).fleet (zJo (p.map Con.con))=true then some (pn,sumC (p.map Con.con)) else st:=by
   rw [hnil,srS,if_neg (by rw [hq];exact Bool.false_ne_true)]
  rw [hs]
  refine Wk ?_
  refine zm1 (ι:=Nat) (fun k=>⟨[(0,true,.c (.v (.pointer (some ⟨b,0,none⟩)))),(1,true,.c (.v cho.val)),(2,true,.c (.v (.int .i64 (sumC (p.map (Con.con (α:=DOption))))))),(6,true,.c (.v (.int .i64 pn.length))),(7,true,.c (.s 0)),(45,true,.c (.v cho.val)),(46,true,.c (.v (.int .i64 pn.length))),(47,true,.c (.v (.int .i64 k)))],[(0,.row 149 4 k ((p.take k).flatMap Enc.enc))],h,1⟩) (fun k=>k≤pn.length) (fun k=>pn.length - k) 0 (Nat.zero_le _) [0] ?_ ?_
  ·simp only [go_sem,jq,jj,jy,jv,jk,jx,hcll]
   exact Gk
  intro k hk
  refine Wk ?_
  refine zc9 rfl (fun hd=>?_) (fun hd=>?_)
  ·have hlt:k < pn.length:=zjH hd
   have hltc:k < cho.l.length:=by omega
   have hlti:(k:Int) < cho.l.length:=by omega
   obtain ⟨a1,a2,a3⟩:=hp.2 k hlt (by omega)
   have a1i:(k:Int) < L.l.length:=by omega
   have a2i:(pn[k]:Int) < L.l[k].l.length:=by omega
   have hcv:cho.l[k]=((pn[k]:Nat):Int):=by simp only [hcl,zs,List.getElem_map]
   have hok1:=hLo.el a1
   have htk:p.take (k+1)=p.take k ++ [L.l[k].l[pn[k]]]:=by rw [List.take_succ_eq_append_getElem (by omega),a3]
   repeat' first|refine Wa ?_|(simp only [go_sem,jq,jj,jy,jv,jk,jx,q3,q5,q8,q12,q13,q14,q15,q16,q17,true_or,true_and,and_true,implies_true,zkR cok hltc,cok.some hltc,hltc,hlti,hcv,zkQ hLo a1,hLo.some a1,a1,a1i,zkZ hok1 a2,Sl.Ok.some hok1 a2,a2,a2i,jW,jY,and_self];try rfl)|refine Wb ?_|fail
   refine ⟨by simp only [maxLen];omega,by omega,?_⟩
   refine Wk ?_
   refine ⟨k+1,[2],hlt,by omega,?_⟩
   refine Evs ?_
   rw [htk,List.flatMap_append]
   exact Gi (zjA hlt (by omega))
  have hge:=zjI hd
  obtain rfl:k=pn.length:=by omega
  rw [List.take_of_length_le (by omega)]
  have hpok:∀ y ∈ p,Enc.ok h y:=fun y hy=>by
   obtain ⟨i,hi,rfl⟩:=List.getElem_of_mem hy
   obtain ⟨a1,a2,a3⟩:=hp.2 i (by omega) hi
   rw [a3]
   exact Sl.Ok.el (hLo.el a1) a2
  refine zc6 ?_
  refine Evs ?_
  refine zjQ 0 p rfl rfl hpl.symm rfl (by decide) hpok fun s h' e1 e2 e3 _ _=>?_
  have hes:Con.con s=p.map Con.con:=by rw [show Con.con s=s.l.map Con.con from rfl,e1]
  have hzs:Sz.sz (Con.con s)≤1048576:=by
   rw [hes]
   have:=zGb (l:=p.map (Con.con (α:=DOption))) (k:=8) fun y hy=>by
    obtain ⟨z,hz,rfl⟩:=List.mem_map.1 hy
    exact (hpm z hz).2.2
   rw [List.length_map] at this
   omega
  have hzc:Sz.sz (zJo (Con.con s))≤1048576:=zJs _ hzs
  have bx1:=(H.grow e3).bx
  obtain ⟨q3,q5,q8,q12,q13,q14,q15,q16,q17⟩:=zKN bx1
  refine Wk ?_
  refine zyW rfl ?_
  refine U_t [0,5,10,15,1,6,11,2,7,12,3,8,13,4,9,14] rfl ?_
  simp only [go_sem,jq,jj,jy,jv,jk,jx,q3,q5,q8,q12,q13,q14,q15,q16,q17,true_or,true_and,and_true,implies_true]
  refine U_1 16 0 [14,9,4,13,8,3,12,7,2,11,6,1] rfl rfl ?_
  simp only [go_sem,jq,jj,jy,jv,jk,jx,q3,q5,q8,q12,q13,q14,q15,q16,q17,true_or,true_and,and_true,implies_true]
  refine zkr (zJr s h' e2 hzs) rfl ?_
  rintro v h2 le2 ⟨c2,rfl,ec2,okc2,mc2⟩
  have bx2:=(H.grow (Hp.le_trans e3 le2)).bx
  obtain ⟨q3,q5,q8,q12,q13,q14,q15,q16,q17⟩:=zKN bx2
  simp only [go_sem,jq,jj,jy,jv,jk,jx,q3,q5,q8,q12,q13,q14,q15,q16,q17,true_or,true_and,and_true,implies_true]
  refine U_1 17 0 [] rfl rfl ?_
  simp only [go_sem,jq,jj,jy,jv,jk,jx,q3,q5,q8,q12,q13,q14,q15,q16,q17,true_or,true_and,and_true,implies_true]
  refine zhF (fun _=>zJa x.crew x.chart x.fleet c2 _ (Enc.mono (Hp.le_trans e3 le2) hx.2.2.2.2) (Enc.mono (Hp.le_trans e3 le2) hx.2.1) (Sl.Ok.mono (Hp.le_trans e3 le2) hx.2.2.1) okc2 (by rw [ec2];exact hzc)) ?_
  refine Evs ?_
  refine U_d ?_
  have hcr:zIU (Con.con x).crew (Con.con x).chart (Con.con x).fleet (zJo (p.map Con.con))=zIU (Con.con x.crew) (Con.con x.chart) x.fleet.l (zJo (p.map Con.con)):=by
   rw [show (Con.con x).fleet=x.fleet.l from zz2 _];rfl
  rw [ec2,hes,zz2]
  refine zc9 rfl (fun hz=>?_) (fun hz=>?_)
  ·rw [if_pos (hcr.trans hz)]
   have H2:=H.grow (Hp.le_trans e3 le2)
   have hall:h2.ldL cho.val 1=some (cho.l.flatMap Enc.enc):=((cok.mono e3).mono le2).all (by decide)
   have hclm:cho.l.length≤6:=by omega
   first|refine zyi [0,0,0,2,0,0,1] rfl ?_|refine zyh [0,0,0,2,0,0,1] rfl ?_|(refine zc3 ?_;first|refine zyi [0,0,0,2,0,0,1] rfl ?_|refine zyh [0,0,0,2,0,0,1] rfl ?_)
   refine Evs ?_
   simp only [hall,Option.isSome_some,Option.getD_some,Nat.zero_add]
   refine ⟨trivial,fun u hu=>?_,by simp only [maxLen];omega,by omega,fun ad cap h3 P=>⟨.inl trivial,?_⟩⟩
   ·rw [zCX] at hu
    obtain ⟨y,_,rfl⟩:=List.mem_map.1 hu
    rfl
   have P':Pub h2 3 (Enc.size Int) cho.l.length (cho.l.flatMap Enc.enc) ad cap h3:=P
   obtain ⟨R3,fr3,kp3⟩:=P'.row
   have H3:=H2.grow P'.le
   have rq:RowF 3 hb h3 b (Sl.mk ad cap cho.l):=⟨R3,fun g hg=>⟨znC H2.le (fr3 g hg),fun e=>H2.nbx (by rw [← e];exact fr3 g hg)⟩⟩
   refine zKy (xs':=skC x L cx rs (Sl.mk ad cap cho.l) m fo) (by simp only [go_sem]) (by simp only [go_sem]) rfl rfl H3.bx (.inr own) (by simp [skC]) rfl ?_
   first|refine zyi [0,0,0,0,1] rfl ?_|refine zyh [0,0,0,0,1] rfl ?_|(refine zc3 ?_;first|refine zyi [0,0,0,0,1] rfl ?_|refine zyh [0,0,0,0,1] rfl ?_)
   refine Evs ?_
   refine ⟨.inl trivial,?_⟩
   refine zKy (xs':=skC x L cx rs (Sl.mk ad cap cho.l) (sumC (p.map Con.con)) fo) (by simp only [go_sem]) (by simp only [go_sem]) rfl rfl Hp.ins_same (.inr own) (by simp [skC]) rfl ?_
   first|refine zyi [0,0,0,1] rfl ?_|refine zyh [0,0,0,1] rfl ?_|(refine zc3 ?_;first|refine zyi [0,0,0,1] rfl ?_|refine zyh [0,0,0,1] rfl ?_)
   refine Evs ?_
   refine ⟨.inl trivial,?_⟩
   refine zKy (xs':=skC x L cx rs (Sl.mk ad cap cho.l) (sumC (p.map Con.con)) true) (by simp only [go_sem]) (by simp only [go_sem]) rfl rfl Hp.ins_same (.inr own) (by simp [skC]) rfl ?_
   rw [Hp.ins_ins,Hp.ins_ins]
   refine Wk ?_
   exact ⟨Sl.mk ad cap cho.l,_,true,SK.mk2 H3 H3.le rq,rfl,hcl,rfl⟩
  ·rw [if_neg (by rw [hcr,hz];exact Bool.false_ne_true)]
   refine Wk ?_
   exact ⟨be,m,fo,H.grow (Hp.le_trans e3 le2),hst⟩
 have hy:¬ (pn.length=L.l.length):=by have:=ne_of_beq_false hy;omega
 have hi:pn.length < L.l.length:=by omega
 have hii:(pn.length:Int) < L.l.length:=by omega
 refine zc5 ?_
 refine Evs ?_
 repeat' first|refine Wa ?_|(simp only [go_sem,jq,jj,jy,jv,jk,jx,q3,q5,q8,q12,q13,q14,q15,q16,q17,true_or,true_and,and_true,implies_true,zkQ hLo hi,hLo.some hi,hi,hii,jW,jY,and_self];try rfl)|refine Wb ?_|fail
 have hmem:L.l[pn.length] ∈ L.l:=List.getElem_mem hi
 have h90:=hLn _ hmem
 have hs:srS (Con.con x) ((LL L).drop pn.length) (p.map Con.con) pn st=(List.range L.l[pn.length].l.length).foldl (zKR (Con.con x) ((LL L).drop (pn.length+1)) (L.l[pn.length].l.map Con.con) (p.map Con.con) pn) st:=by
  rw [zKJ hi] at hq ⊢
  rw [srS,if_neg (by rw [hq];exact Bool.false_ne_true),List.length_map]
  rfl
 rw [hs]
 refine zEE (ι:=Nat × Hp × Sl Int × Int × Bool) (fun i=>⟨[(0,true,.c (.v (.pointer (some ⟨b,0,none⟩)))),(1,true,.c (.v cho.val)),(2,true,.c (.v (.int .i64 (sumC (p.map (Con.con (α:=DOption))))))),(6,true,.c (.v (.int .i64 pn.length))),(103,true,.c (.v L.l[pn.length].val)),(104,true,.c (.v (.int .i64 L.l[pn.length].l.length))),(105,true,.c (.v (.int .i64 i.1)))],[],i.2.1,0⟩) (fun i=>i.1≤L.l[pn.length].l.length∧SK hb i.2.1 b x L cx rs i.2.2.1 i.2.2.2.1 i.2.2.2.2∧BSS ((List.range i.1).foldl (zKR (Con.con x) ((LL L).drop (pn.length+1)) (L.l[pn.length].l.map Con.con) (p.map Con.con) pn) st) i.2.2.1 i.2.2.2.1 i.2.2.2.2∧(h.del b).le (i.2.1.del b)) (fun i=>L.l[pn.length].l.length - i.1) (0,h,be,m,fo) ⟨Nat.zero_le _,H,hst,Hp.le_refl _⟩ [] ?_ ?_
 ·simp only [go_sem,jq,jj,jy,jv,jk,jx,hcll]
  exact Gk
 rintro ⟨n,hk,be1,m1,fo1⟩ ⟨hnl,H1,hB1,hdl⟩
 simp only at hnl H1 hB1 hdl
 obtain ⟨q3,q5,q8,q12,q13,q14,q15,q16,q17⟩:=zKN H1.bx
 have cdk:=hcho.mono hdl
 have cok1:=cdk.mono zKO
 have hLk:=H1.oL.mono H1.le
 refine Wk ?_
 refine zc9 rfl (fun hd=>?_) (fun hd=>?_)
 ·have hlt:=zjH hd
  have hlk:=hLk.el hi
  have hog:=hLg _ hmem _ (List.getElem_mem hlt)
  repeat' first|refine Wa ?_|(simp only [go_sem,jq,jj,jy,jv,jk,jx,zkZ hlk hlt,Sl.Ok.some hlk hlt,hlt,jW];try rfl)|refine Wb ?_|fail
  refine zEE (ι:=Nat) (fun k=>⟨[(0,true,.c (.v (.pointer (some ⟨b,0,none⟩)))),(1,true,.c (.v cho.val)),(2,true,.c (.v (.int .i64 (sumC (p.map (Con.con (α:=DOption))))))),(6,true,.c (.v (.int .i64 pn.length))),(10,true,.c (.v (.int .i64 n))),(11,true,.c (.p 0 0)),(12,true,.c (.v (.bool (!((p.take k).any fun q=>cl x L.l[pn.length].l[n] q))))),(103,true,.c (.v L.l[pn.length].val)),(104,true,.c (.v (.int .i64 L.l[pn.length].l.length))),(105,true,.c (.v (.int .i64 n))),(110,true,.c (.v cho.val)),(111,true,.c (.v (.int .i64 pn.length))),(112,true,.c (.v (.int .i64 k)))],[(0,.box 149 [.v (.int .i64 L.l[pn.length].l[n].start),.v (.int .i64 L.l[pn.length].l[n].arr),.v (.int .i64 L.l[pn.length].l[n].cost),.v L.l[pn.length].l[n].pas.val])],hk,1⟩) (fun k=>k≤pn.length) (fun k=>pn.length - k) 0 (Nat.zero_le _) [0] ?_ ?_
  ·simp only [go_sem,jq,jj,jy,jv,jk,jx,hcll]
   exact Gk
  intro k hkk
  refine Wk ?_
  refine zc9 rfl (fun hdk=>?_) (fun hdk=>?_)
  ·have hltk:k < pn.length:=zjH hdk
   have hltc:k < cho.l.length:=by omega
   obtain ⟨a1,a2,a3⟩:=hp.2 k hltk (by omega)
   have hcv:cho.l[k]=((pn[k]:Nat):Int):=by simp only [hcl,zs,List.getElem_map]
   obtain ⟨c1,c2,c3,c4,c5⟩:=zKI hcx hi a1 hlt a2
   have ock:=H1.oc.mono H1.le
   have ock1:=ock.el c1
   have ock2:=Sl.Ok.el ock1 c2
   have ock3:=Sl.Ok.el ock2 c3
   have c1i:(pn.length:Int) < cx.l.length:=by omega
   have c2i:(k:Int) < cx.l[pn.length].l.length:=by omega
   have c3i:(n:Int) < cx.l[pn.length].l[k].l.length:=by omega
   have c4i:(pn[k]:Int) < cx.l[pn.length].l[k].l[n].l.length:=by omega
   repeat' first|refine Wa ?_|(simp only [go_sem,jq,jj,jy,jv,jk,jx,q3,q5,q8,q12,q13,q14,q15,q16,q17,true_or,true_and,and_true,implies_true,zkR cok1 hltc,cok1.some hltc,hltc,hcv,zkQ ock c1,ock.some c1,c1,c1i,zkQ ock1 c2,Sl.Ok.some ock1 c2,c2,c2i,zkQ ock2 c3,Sl.Ok.some ock2 c3,c3,c3i,zBL ock3 c4,Sl.Ok.some ock3 c4,c4,c4i,c5,jW,jY,and_self];try rfl)|refine Wb ?_|fail
   refine zc9 rfl (fun hz=>?_) (fun hz=>?_)
   ·refine Wk ?_
    refine ⟨k+1,[0],hltk,by omega,?_⟩
    refine Evs ?_
    rw [zBb (by omega),a3,hz,Bool.or_true]
    exact Gi (zjA hltk (by omega))
   ·refine Wk ?_
    refine ⟨k+1,[0],hltk,by omega,?_⟩
    refine Evs ?_
    rw [zBb (by omega),a3,hz,Bool.or_false]
    exact Gi (zjA hltk (by omega))
  have hgek:=zjI hdk
  obtain rfl:k=pn.length:=by omega
  rw [List.take_of_length_le (by omega)]
  refine Wk ?_
  obtain ⟨o,ho⟩:∃ o,L.l[pn.length].l[n]=o:=⟨_,rfl⟩
  have hgd:(L.l[pn.length].l.map (Con.con (α:=DOption))).getD n zFE=Con.con o:=by simp [List.getD_eq_getElem?_getD,hlt,ho]
  have hfree:zJS (Con.con x) (p.map Con.con) (Con.con o)=!(p.any fun q=>cl x o q):=by
   rw [zKn]
   congr 2
   funext q
   rw [cl,zJR]
  have hst:∀ st',zKR (Con.con x) ((LL L).drop (pn.length+1)) (L.l[pn.length].l.map Con.con) (p.map Con.con) pn st' n=if zJS (Con.con x) (p.map Con.con) (Con.con o)=true then srS (Con.con x) ((LL L).drop (pn.length+1)) (p.map Con.con ++ [Con.con o]) (pn ++ [n]) st' else st':=fun st'=>by rw [zKR,hgd]
  have hpsn:=hp.snoc hi hlt
  rw [ho] at hog hpsn ⊢
  refine zc9 rfl (fun hf=>?_) (fun hf=>?_)
  ·have hsum:sumC ((p ++ [o]).map Con.con)=sumC (p.map Con.con)+o.cost:=by rw [List.map_append,List.map_cons,List.map_nil,zJW];rfl
   have hwc:IntKind.i64.wrap (sumC (p.map (Con.con (α:=DOption)))+o.cost)=sumC ((p ++ [o]).map Con.con):=by rw [hsum,zjz (by omega)]
   have hall:hk.ldL cho.val 1=some (cho.l.flatMap Enc.enc):=cok1.all (by decide)
   have hclm:cho.l.length≤6:=by omega
   refine Wk ?_
   refine zED (ι:=Hp × Sl Int × Int × Bool) (fun i=>⟨[(0,true,.c (.v (.pointer (some ⟨b,0,none⟩)))),(1,true,.c (.v cho.val)),(2,true,.c (.v (.int .i64 (sumC (p.map (Con.con (α:=DOption))))))),(6,true,.c (.v (.int .i64 pn.length))),(103,true,.c (.v L.l[pn.length].val)),(104,true,.c (.v (.int .i64 L.l[pn.length].l.length))),(105,true,.c (.v (.int .i64 n)))],[],i.1,0⟩) (fun i=>SK hb i.1 b x L cx rs i.2.1 i.2.2.1 i.2.2.2∧BSS ((List.range (n+1)).foldl (zKR (Con.con x) ((LL L).drop (pn.length+1)) (L.l[pn.length].l.map Con.con) (p.map Con.con) pn) st) i.2.1 i.2.2.1 i.2.2.2∧(h.del b).le (i.1.del b)) (fun _=>rfl) ?_ ?_
   ·refine zyW rfl ?_
    refine U_t [0,2,4,7,8,9,10] rfl ?_
    simp only [go_sem,jq,jj,jy,jv,jk,jx,hwc]
    refine U_m 1 [5] ⟨?_,?_,trivial⟩
    ·refine U_b 1 0 [10,9,8] rfl rfl ?_
     simp only [go_sem,jq,jj,jy,jv,jk,jx,hwc]
     refine U_m 3 [5] ⟨?_,?_,trivial⟩
     ·refine U_b 3 0 [10,9,8] rfl rfl ?_
      simp only [go_sem,jq,jj,jy,jv,jk,jx,hwc]
      simp only [hall,Option.isSome_some,Option.getD_some]
      refine ⟨trivial,fun u hu=>?_,by simp only [maxLen];omega,by omega,?_⟩
      ·rw [zCX] at hu
       obtain ⟨y,_,rfl⟩:=List.mem_map.1 hu
       rfl
      try simp only [go_sem,jq,jj,jy,jv,jk,jx,hwc]
      refine U_1 5 0 [10,9,8] rfl rfl ?_
      simp only [go_sem,jq,jj,jy,jv,jk,jx,hwc]
      refine U_1 6 2 [10,9,8] rfl rfl ?_
      simp only [go_sem,jq,jj,jy,jv,jk,jx,hwc]
      refine ⟨by simp only [maxLen];omega,by omega,fun ad cap h2 P=>?_⟩
      have P':Pub hk 3 (Enc.size Int) (cho.l ++ [(n:Int)]).length ((cho.l ++ [(n:Int)]).flatMap Enc.enc) ad cap h2:=by
       rw [List.length_append,List.flatMap_append];rw [Nat.zero_add] at P;exact P
      obtain ⟨R2,fr2,kp2⟩:=P'.row
      have H2:=H1.grow P'.le
      have rq:RowF 3 hb h2 b (Sl.mk ad cap (cho.l ++ [(n:Int)])):=⟨R2,fun g hg=>⟨znC H1.le (fr2 g hg),fun e=>H1.nbx (by rw [← e];exact fr2 g hg)⟩⟩
      have h90:=hLn _ hmem
      have cok2:(Sl.mk ad cap (cho.l ++ [(n:Int)])).Ok (h2.del b):=RowAt.ok (s:=Sl.mk ad cap (cho.l ++ [(n:Int)])) (by decide) (rq.del) fun y hy=>by
       rcases List.mem_append.1 hy with hy|hy
       ·exact cok1.2.2.2.1 y hy
       ·rw [List.mem_singleton.1 hy];show I64 _;unfold I64;omega
      rw [show Value.slice ad (0+cho.l.length+1) cap=(Sl.mk ad cap (cho.l ++ [(n:Int)])).val from by simp only [Sl.val,List.length_append,List.length_singleton,Nat.zero_add]]
      try simp only [go_sem,jq,jj,jy,jv,jk,jx,hwc]
      refine U_1 11 1 [] rfl rfl ?_
      simp only [go_sem,jq,jj,jy,jv,jk,jx,hwc]
      try refine ⟨rfl,?_⟩
      refine zlJ (ih (f - 1) (by omega) (pn ++ [n]) (p ++ [o]) (Sl.mk ad cap (cho.l ++ [(n:Int)])) be1 m1 fo1 _ h2 H2 hB1 cok2 (by simp [hcl,zs]) (by rw [List.length_append,List.length_singleton];omega) hpsn) rfl (fun k hk=>by rw [hk];exact ⟨H2.nbx,.inr own⟩) ?_
      rintro v h6 kp ⟨be6,m6,fo6,H6,hB6⟩
      try simp only [go_sem,jq,jj,jy,jv,jk,jx]
      refine U_d ?_
      refine ⟨(h6,be6,m6,fo6),[],⟨H6,?_,Hp.le_trans hdl (Hp.le_trans (zKP fun k o hk _=>P'.le k o hk) (zKP kp))⟩,?_⟩
      ·simp only
       try rw [List.range_succ]
       rw [List.foldl_append,List.foldl_cons,List.foldl_nil,hst,if_pos (by rw [hfree];exact hf)]
       rw [show (pn ++ [n]).length=pn.length+1 by rw [List.length_append,List.length_singleton],List.map_append,List.map_cons,List.map_nil] at hB6
       exact hB6
      refine Evs ?_
      exact Gk
     ·refine U_b 5 0 [10,9,8] rfl rfl ?_
      simp only [go_sem,jq,jj,jy,jv,jk,jx,hwc]
      refine U_1 3 0 [10,9,8] rfl rfl ?_
      simp only [go_sem,jq,jj,jy,jv,jk,jx,hwc]
      simp only [hall,Option.isSome_some,Option.getD_some]
      refine ⟨trivial,fun u hu=>?_,by simp only [maxLen];omega,by omega,?_⟩
      ·rw [zCX] at hu
       obtain ⟨y,_,rfl⟩:=List.mem_map.1 hu
       rfl
      try simp only [go_sem,jq,jj,jy,jv,jk,jx,hwc]
      refine U_1 6 2 [10,9,8] rfl rfl ?_
      simp only [go_sem,jq,jj,jy,jv,jk,jx,hwc]
      refine ⟨by simp only [maxLen];omega,by omega,fun ad cap h2 P=>?_⟩
      have P':Pub hk 3 (Enc.size Int) (cho.l ++ [(n:Int)]).length ((cho.l ++ [(n:Int)]).flatMap Enc.enc) ad cap h2:=by
       rw [List.length_append,List.flatMap_append];rw [Nat.zero_add] at P;exact P
      obtain ⟨R2,fr2,kp2⟩:=P'.row
      have H2:=H1.grow P'.le
      have rq:RowF 3 hb h2 b (Sl.mk ad cap (cho.l ++ [(n:Int)])):=⟨R2,fun g hg=>⟨znC H1.le (fr2 g hg),fun e=>H1.nbx (by rw [← e];exact fr2 g hg)⟩⟩
      have h90:=hLn _ hmem
      have cok2:(Sl.mk ad cap (cho.l ++ [(n:Int)])).Ok (h2.del b):=RowAt.ok (s:=Sl.mk ad cap (cho.l ++ [(n:Int)])) (by decide) (rq.del) fun y hy=>by
       rcases List.mem_append.1 hy with hy|hy
       ·exact cok1.2.2.2.1 y hy
       ·rw [List.mem_singleton.1 hy];show I64 _;unfold I64;omega
      rw [show Value.slice ad (0+cho.l.length+1) cap=(Sl.mk ad cap (cho.l ++ [(n:Int)])).val from by simp only [Sl.val,List.length_append,List.length_singleton,Nat.zero_add]]
      try simp only [go_sem,jq,jj,jy,jv,jk,jx,hwc]
      refine U_1 11 1 [] rfl rfl ?_
      simp only [go_sem,jq,jj,jy,jv,jk,jx,hwc]
      try refine ⟨rfl,?_⟩
      refine zlJ (ih (f - 1) (by omega) (pn ++ [n]) (p ++ [o]) (Sl.mk ad cap (cho.l ++ [(n:Int)])) be1 m1 fo1 _ h2 H2 hB1 cok2 (by simp [hcl,zs]) (by rw [List.length_append,List.length_singleton];omega) hpsn) rfl (fun k hk=>by rw [hk];exact ⟨H2.nbx,.inr own⟩) ?_
      rintro v h6 kp ⟨be6,m6,fo6,H6,hB6⟩
      try simp only [go_sem,jq,jj,jy,jv,jk,jx]
      refine U_d ?_
      refine ⟨(h6,be6,m6,fo6),[],⟨H6,?_,Hp.le_trans hdl (Hp.le_trans (zKP fun k o hk _=>P'.le k o hk) (zKP kp))⟩,?_⟩
      ·simp only
       try rw [List.range_succ]
       rw [List.foldl_append,List.foldl_cons,List.foldl_nil,hst,if_pos (by rw [hfree];exact hf)]
       rw [show (pn ++ [n]).length=pn.length+1 by rw [List.length_append,List.length_singleton],List.map_append,List.map_cons,List.map_nil] at hB6
       exact hB6
      refine Evs ?_
      exact Gk
    ·refine U_b 5 0 [10,9,8] rfl rfl ?_
     simp only [go_sem,jq,jj,jy,jv,jk,jx,hwc]
     refine U_1 1 0 [10,9,8] rfl rfl ?_
     simp only [go_sem,jq,jj,jy,jv,jk,jx,hwc]
     refine U_1 3 0 [10,9,8] rfl rfl ?_
     simp only [go_sem,jq,jj,jy,jv,jk,jx,hwc]
     simp only [hall,Option.isSome_some,Option.getD_some]
     refine ⟨trivial,fun u hu=>?_,by simp only [maxLen];omega,by omega,?_⟩
     ·rw [zCX] at hu
      obtain ⟨y,_,rfl⟩:=List.mem_map.1 hu
      rfl
     try simp only [go_sem,jq,jj,jy,jv,jk,jx,hwc]
     refine U_1 6 2 [10,9,8] rfl rfl ?_
     simp only [go_sem,jq,jj,jy,jv,jk,jx,hwc]
     refine ⟨by simp only [maxLen];omega,by omega,fun ad cap h2 P=>?_⟩
     have P':Pub hk 3 (Enc.size Int) (cho.l ++ [(n:Int)]).length ((cho.l ++ [(n:Int)]).flatMap Enc.enc) ad cap h2:=by
      rw [List.length_append,List.flatMap_append];rw [Nat.zero_add] at P;exact P
     obtain ⟨R2,fr2,kp2⟩:=P'.row
     have H2:=H1.grow P'.le
     have rq:RowF 3 hb h2 b (Sl.mk ad cap (cho.l ++ [(n:Int)])):=⟨R2,fun g hg=>⟨znC H1.le (fr2 g hg),fun e=>H1.nbx (by rw [← e];exact fr2 g hg)⟩⟩
     have h90:=hLn _ hmem
     have cok2:(Sl.mk ad cap (cho.l ++ [(n:Int)])).Ok (h2.del b):=RowAt.ok (s:=Sl.mk ad cap (cho.l ++ [(n:Int)])) (by decide) (rq.del) fun y hy=>by
      rcases List.mem_append.1 hy with hy|hy
      ·exact cok1.2.2.2.1 y hy
      ·rw [List.mem_singleton.1 hy];show I64 _;unfold I64;omega
     rw [show Value.slice ad (0+cho.l.length+1) cap=(Sl.mk ad cap (cho.l ++ [(n:Int)])).val from by simp only [Sl.val,List.length_append,List.length_singleton,Nat.zero_add]]
     try simp only [go_sem,jq,jj,jy,jv,jk,jx,hwc]
     refine U_1 11 1 [] rfl rfl ?_
     simp only [go_sem,jq,jj,jy,jv,jk,jx,hwc]
     try refine ⟨rfl,?_⟩
     refine zlJ (ih (f - 1) (by omega) (pn ++ [n]) (p ++ [o]) (Sl.mk ad cap (cho.l ++ [(n:Int)])) be1 m1 fo1 _ h2 H2 hB1 cok2 (by simp [hcl,zs]) (by rw [List.length_append,List.length_singleton];omega) hpsn) rfl (fun k hk=>by rw [hk];exact ⟨H2.nbx,.inr own⟩) ?_
     rintro v h6 kp ⟨be6,m6,fo6,H6,hB6⟩
     try simp only [go_sem,jq,jj,jy,jv,jk,jx]
     refine U_d ?_
     refine ⟨(h6,be6,m6,fo6),[],⟨H6,?_,Hp.le_trans hdl (Hp.le_trans (zKP fun k o hk _=>P'.le k o hk) (zKP kp))⟩,?_⟩
     ·simp only
      try rw [List.range_succ]
      rw [List.foldl_append,List.foldl_cons,List.foldl_nil,hst,if_pos (by rw [hfree];exact hf)]
      rw [show (pn ++ [n]).length=pn.length+1 by rw [List.length_append,List.length_singleton],List.map_append,List.map_cons,List.map_nil] at hB6
      exact hB6
     refine Evs ?_
     exact Gk
   rintro ⟨h7,be7,m7,fo7⟩ ⟨H7,hB7,hd7⟩
   simp only at H7 hB7 hd7
   refine Wk ?_
   refine ⟨(n+1,h7,be7,m7,fo7),[],⟨hlt,H7,hB7,hd7⟩,by simp only;omega,?_⟩
   refine Evs ?_
   exact Gi (zjA hlt (by omega))
  ·refine Wk ?_
   refine ⟨(n+1,hk,be1,m1,fo1),[],⟨hlt,H1,?_,hdl⟩,by simp only;omega,?_⟩
   ·simp only
    rw [List.range_succ,List.foldl_append,List.foldl_cons,List.foldl_nil,hst,if_neg (by rw [hfree];exact fun e=>by rw [e] at hf;cases hf)]
    exact hB1
   refine Evs ?_
   exact Gi (zjA hlt (by omega))
 ·have hge:=zjI hd
  obtain rfl:n=L.l[pn.length].l.length:=by omega
  refine Wk ?_
  exact ⟨be1,m1,fo1,H1,hB1⟩
theorem zKX {q:DOption} {B:Nat} (hz:Sz.sz (Con.con q)≤B):q.pas.l.length≤B:=by
 have h2:Sz.sz (Con.con q)=Sz.sz (Con.con q.pas):=rfl
 rw [h2] at hz
 have:=znx hz
 rwa [znA] at this
theorem zKY (x:DHarbour) (a:Sl DCall) (h:Hp) (hx:Enc.ok h x) (ha:a.Ok h) (hz:a.l.length≤1048576):Ct jV 97 [x.v,a.val] h fun v h'=>∃ s:Sl (Sl DOption),v=s.val∧s.l.map (fun l=>l.l.map (Con.con (α:=DOption)))=zJu (Con.con x) a.l∧s.Ok h'∧Mine h h' s:=by
 have hl:=ha.max
 refine zdn (fun A W=>by simp) Tryz.func97 rfl rfl (by simp) fun W0=>?_
 refine Wk ?_
 refine zm1 (ι:=Nat × List (Sl DOption) × Hp) (fun i=>⟨[(2,true,.c (.p 0 0)),(4,true,.c (.v (.slice none 0 0))),(5,true,.c (.s 1)),(9,true,.c (.v a.val)),(10,true,.c (.v (.int .i64 a.l.length))),(11,true,.c (.v (.int .i64 i.1)))],[(0,.box 58 [.v (.int .i64 x.forecast.tide.mean),.v x.forecast.tide.parts.val,.v x.forecast.surges.val,.v x.chart.points.val,.v x.chart.segments.val,.v x.fleet.val,.v (.int .i64 x.regime.gap),.v (.bool x.regime.noMeet),.v (.int .i64 x.crew.tugs),.v (.int .i64 x.crew.pilots),.v (.int .i64 x.crew.rest),.v x.crew.moves.val]),(1,.row 80 1 i.2.1.length (i.2.1.flatMap Enc.enc))],i.2.2,2⟩) (fun i=>i.1≤a.l.length∧i.2.1.length=i.1∧i.2.1.map (fun l=>l.l.map (Con.con (α:=DOption)))=(a.l.take i.1).map (zFU (Con.con x))∧(∀ y ∈ i.2.1,Enc.ok i.2.2 y)∧Mines h i.2.2 i.2.1∧h.le i.2.2) (fun i=>a.l.length - i.1) (0,[],h) ⟨Nat.zero_le _,rfl,rfl,fun y hy=>(by cases hy),Mines.nil,Hp.le_refl _⟩ [0,1] ?_ ?_
 ·refine Evs ?_
  exact Gk
 rintro ⟨k,acc,hk⟩ ⟨hkl,hal,hac,hacok,hacm,hle⟩
 simp only at hkl hal hac hacok hacm hle
 have hak:=ha.mono hle
 have hxk:Enc.ok hk x:=Enc.mono hle hx
 refine Wk ?_
 refine zc9 rfl (fun hd=>?_) (fun hd=>?_)
 ·have hlt:=zjH hd
  repeat' first|refine Wa ?_|(simp only [go_sem,jq,jj,jy,jv,jk,jx,zkT hak hlt,hak.some hlt,hlt,jW];try rfl)|refine Wb ?_|fail
  refine zkr (zF4 x a.l[k] _ hxk (hak.el hlt)) rfl ?_
  rintro v h2 le2 ⟨s,rfl,es,oks,ms⟩
  refine Wk ?_
  refine ⟨by simp only [maxLen];omega,by omega,?_⟩
  refine Wk ?_
  have hle2:=Hp.le_trans hle le2
  have hw:IntKind.i64.wrap ((k:Int)+1)=((k+1:Nat):Int):=zjA hlt (by omega)
  refine ⟨(k+1,acc ++ [s],h2),[0,4],⟨hlt,?_,?_,fun y hy=>?_,Mines.snoc hacm hacok le2 hle ms,hle2⟩,by simp only;omega,?_⟩
  ·show (acc ++ [s]).length=k+1
   rw [List.length_append,hal];rfl
  ·show (acc ++ [s]).map _=(a.l.take (k+1)).map _
   rw [List.map_append,hac,List.take_succ_eq_append_getElem hlt,List.map_append]
   congr 1
   exact congrArg (fun z=>[z]) es
  ·rcases List.mem_append.1 hy with hy|hy
   ·exact Enc.mono le2 (hacok y hy)
   ·rw [List.mem_singleton.1 hy];exact oks
  refine Evs ?_
  rw [hw]
  simp only [List.flatMap_append,List.length_append]
  exact Gk
 ·have hge:=zjI hd
  refine zc6 ?_
  refine Evs ?_
  refine zl5 1 acc rfl rfl rfl rfl (by decide) hacok h hle hacm fun q h' e2 e3 e4 e5=>?_
  refine Wk ?_
  refine ⟨q,rfl,?_,e3,e5⟩
  rw [e2,hac,List.take_of_length_le hge];rfl
theorem zKZ (s:Sl DOption) (h:Hp) (hs:s.Ok h):Ct jV 98 [s.val] h fun v h'=>v=.agg #[.int .i64 (zzp (s.l.map Con.con)),.int .i64 0]∧h'=h:=by
 refine zdn (fun A W=>by simp) Tryz.func98 rfl rfl (by simp) fun W0=>?_
 repeat' first|refine Wa ?_|refine zhF (fun _=>zzs s _ hs) ?_|(simp only [go_sem,jq,jj,jy,jv,jk,jx];try rfl)|refine Wb ?_|fail
theorem zK0 {x:PHarbour} {w:List POption→Int}:∀ {L:List (List POption)} {p:List POption} {ch:List Nat} {st:BSt} {r1:List Nat} {r2:Int},(∀ l ∈ L,l.length < 100)→(∀ y ∈ ch,y < 100)→(∀ r1 r2,st=some (r1,r2)→∀ y ∈ r1,y < 100)→srW x w L p ch st=some (r1,r2)→∀ y ∈ r1,y < 100
 | [],p,ch,st,r1,r2,hL,hch,hst,h=>by
  rw [srW] at h
  split at h
  ·exact hst _ _ h
  ·cases h;exact hch
 | l :: L,p,ch,st,r1,r2,hL,hch,hst,h=>by
  rw [srW] at h
  split at h
  ·exact hst _ _ h
  ·have hl:=hL l (List.mem_cons_self ..)
   have key:∀ (ks:List Nat) (st:BSt),(∀ k ∈ ks,k < 100)→(∀ r1 r2,st=some (r1,r2)→∀ y ∈ r1,y < 100)→∀ r1 r2,ks.foldl (fun st k=>if zJT x p (l.getD k zFE)=true then srW x w L (p ++ [l.getD k zFE]) (ch ++ [k]) st else st) st=some (r1,r2)→∀ y ∈ r1,y < 100:=by
    intro ks
    induction ks with
    | nil=>intro st _ hs r1 r2 h;exact hs r1 r2 h
    | cons k ks ih =>
     intro st hks hs r1 r2 h
     rw [List.foldl_cons] at h
     refine ih _ (fun j hj=>hks j (List.mem_cons_of_mem _ hj)) (fun q1 q2 hq=>?_) r1 r2 h
     split at hq
     ·refine zK0 (fun l hl=>hL l (List.mem_cons_of_mem _ hl)) (fun y hy=>?_) hs hq
      rcases List.mem_append.1 hy with hy|hy
      ·exact hch y hy
      ·rw [List.mem_singleton.1 hy];exact hks k (List.mem_cons_self ..)
     ·exact hs q1 q2 hq
   exact key _ st (fun k hk=>by have:=List.mem_range.1 hk;omega) hst r1 r2 h
set_option maxRecDepth 30000 in
theorem zK1 (x:DHarbour) (L:Sl (Sl DOption)) (wfn:Nat) (cs:List Value) (w:List POption→Int) (h:Hp) (hx:Enc.ok h x) (hL:L.Ok h) (hR:zAm x.regime=true) (hL6:L.l.length≤6) (hLn:∀ l ∈ L.l,l.l.length≤90) (hLg:∀ l ∈ L.l,∀ y ∈ l.l,zJb (Con.con x.chart) x.fleet.l y.pas.l∧y.pas.l.length≤1000)
  (hw:∀ (s:Sl DOption) (h':Hp),s.Ok h'→h.le h'→s.l.length≤6→Ct jV wfn ([s.val] ++ cs) h' fun v h2=>v=.agg #[.int .i64 (w (s.l.map Con.con)),.int .i64 0]∧h2=h') :
  Ct jV 96 [x.v,L.val,.func (.func wfn) #[] cs.toArray] h fun v h'=>∃ (s:Sl Int) (c:Int) (fo:Bool),v=.tuple #[s.val,.agg #[.int .i64 c,.int .i64 0],.bool fo]∧(s.l,c,fo)=zKe (srW (Con.con x) w (LL L) [] [] none)∧s.Ok h'∧Mine h h' s:=by
 refine zdn (fun A W=>by simp) Tryz.func96 rfl rfl (by simp) fun W0=>?_
 refine zie rfl ?_
 refine Evs ?_
 refine zie rfl ?_
 refine Evs ?_
 refine zx5 2 rfl rfl fun g hg hown=>?_
 refine Evs ?_
 have P0:PV h (h.ins g (.cells (plC x L (.func (.func wfn) #[] cs.toArray) (Sl.mk none 0 []) (Sl.mk none 0 []) (Sl.mk none 0 []) 0 0 false).toArray 191 (0,0))) g x L (.func (.func wfn) #[] cs.toArray) (Sl.mk none 0 []) (Sl.mk none 0 []) (Sl.mk none 0 []) 0 0 false :=
  ⟨Hp.ins_le hg,hx,hL,hg,Hp.ins_same,⟨⟨Nat.le_refl _,Nat.zero_le _,.inl ⟨rfl,rfl,rfl⟩⟩,fun g hg=>(by cases hg)⟩,fun y hy=>(by cases hy),⟨⟨Nat.le_refl _,Nat.zero_le _,.inl ⟨rfl,rfl,rfl⟩⟩,fun g hg=>(by cases hg)⟩,⟨⟨Nat.le_refl _,Nat.zero_le _,.inl ⟨rfl,rfl,rfl⟩⟩,fun g hg=>(by cases hg)⟩,fun g hg=>(by cases hg),fun g hg=>(by cases hg),fun g hg=>(by cases hg)⟩
 first|refine zyi [0,1] rfl ?_|refine zyh [0,1] rfl ?_|(refine zc3 ?_;first|refine zyi [0,1] rfl ?_|refine zyh [0,1] rfl ?_)
 try simp only [go_sem,jq,jj,jy,jv,jk,jx]
 refine zlJ (zKL h g x L wfn cs w hR hL6 hLn hLg hw L.l.length [] (Sl.mk none 0 []) (Sl.mk none 0 []) (Sl.mk none 0 []) 0 0 false none _ P0 ⟨rfl,rfl,rfl,rfl⟩ (Nat.zero_add _) rfl rfl (fun y hy=>(by cases hy)) (fun y hy=>(by cases hy))) rfl (fun k hk=>⟨hk.2,.inl hk.1⟩) ?_
 rintro v h6 kp ⟨p6,c6,be6,m0,m1,fo6,H6,ep6,ec6,hB6⟩
 obtain ⟨q0,q12,q13,q14,q15,q16,q17,q19⟩:=zKx H6.bx
 refine Wk ?_
 refine zyW rfl ?_
 refine U_t [0,4,8,1,5,9,2,6,10,3,7,11,12] rfl ?_
 simp only [go_sem,jq,jj,jy,jv,jk,jx,q0,q12,q13,q14,q15,q16,q17,q19,true_or,true_and,and_true,implies_true]
 refine U_1 13 0 [11,10,9] rfl rfl ?_
 simp only [go_sem,jq,jj,jy,jv,jk,jx,q0,q12,q13,q14,q15,q16,q17,q19,true_or,true_and,and_true,implies_true]
 refine U_t [14] rfl ?_
 simp only [go_sem,jq,jj,jy,jv,jk,jx,q0,q12,q13,q14,q15,q16,q17,q19,true_or,true_and,and_true,implies_true]
 refine U_d ?_
 refine Wk ?_
 have hB6:BS (srW (Con.con x) w (LL L) [] [] none) be6 m0 m1 fo6:=hB6
 have hz:m1=0∧(be6.l,m0,fo6)=zKe (srW (Con.con x) w (LL L) [] [] none)∧∀ y ∈ be6.l,I64 y:=by
  cases hr:srW (Con.con x) w (LL L) [] [] none with
  | none =>
   rw [hr] at hB6
   obtain ⟨b1,b2,b3,b4⟩:=hB6
   exact ⟨b4,by rw [b1,b2,b3];rfl,fun y hy=>by rw [b2] at hy;cases hy⟩
  | some r =>
   obtain ⟨r1,r2⟩:=r
   have hlt:=zK0 (fun l hl=>by
    obtain ⟨z,hz,rfl⟩:=List.mem_map.1 hl
    rw [List.length_map];exact Nat.lt_of_le_of_lt (hLn z hz) (by decide)) (fun y hy=>(by cases hy)) (fun _ _ h=>by cases h) hr
   rw [hr] at hB6
   obtain ⟨b1,b2,b3,b4⟩:=hB6
   refine ⟨b4,by rw [b1,b2,b3];rfl,fun y hy=>?_⟩
   rw [b2] at hy
   obtain ⟨z,hz,rfl⟩:=List.mem_map.1 hy
   have:=hlt z hz
   show I64 _;unfold I64;omega
 obtain ⟨rfl,hz,hI⟩:=hz
 exact ⟨be6,m0,fo6,rfl,hz,H6.rb.1.ok (by decide) hI,zID H6.rb.1 fun g hg=>(H6.rb.2 g hg).1⟩
theorem zK2 {x:DHarbour} {a:List DCall} {L:Sl (Sl DOption)} (h:L.l.map (fun l=>l.l.map (Con.con (α:=DOption)))=zJu (Con.con x) a):(∀ l ∈ L.l,l.l.length≤90)∧(∀ l ∈ L.l,∀ y ∈ l.l,zJb (Con.con x.chart) x.fleet.l y.pas.l∧y.pas.l.length≤1000)∧∀ l ∈ L.l,∀ y ∈ l.l,0≤y.cost∧y.cost≤2880∧Sz.sz (Con.con y)≤8:=by
 have key:∀ l ∈ L.l,∃ c ∈ a,l.l.map (Con.con (α:=DOption))=zFU (Con.con x) c:=fun l hl=>by
  have:l.l.map (Con.con (α:=DOption)) ∈ zJu (Con.con x) a:=by rw [← h];exact List.mem_map.2 ⟨l,hl,rfl⟩
  rw [zJu] at this
  obtain ⟨c,hc,e⟩:=List.mem_map.1 this
  exact ⟨c,hc,e.symm⟩
 have mem:∀ l ∈ L.l,∀ y ∈ l.l,∃ c,Con.con y ∈ zFU (Con.con x) c:=fun l hl y hy=>by
  obtain ⟨c,_,e⟩:=key l hl
  exact ⟨c,by rw [← e];exact List.mem_map.2 ⟨y,hy,rfl⟩⟩
 refine ⟨fun l hl=>?_,fun l hl y hy=>?_,fun l hl y hy=>?_⟩
 ·obtain ⟨c,_,e⟩:=key l hl
  have:=(zGa (x:=Con.con x) (a:=c)).1
  rw [← e,List.length_map] at this
  omega
 ·obtain ⟨c,hc⟩:=mem l hl y hy
  have h1:=zJj _ hc
  rw [zKj] at h1
  have h2:=(zGa (x:=Con.con x) (a:=c)).2 _ hc
  refine ⟨h1,?_⟩
  have h3:=zKX h2
  omega
 ·obtain ⟨c,hc⟩:=mem l hl y hy
  have h1:=zGr _ hc
  exact ⟨h1.1,h1.2,(zGa (x:=Con.con x) (a:=c)).2 _ hc⟩
set_option maxRecDepth 30000 in
theorem zK3 (x:DHarbour) (a:Sl DCall) (h:Hp) (hx:Enc.ok h x) (ha:a.Ok h):Ct jV 44 [x.v,a.val] h fun v h'=>∃ s:Sl Int,v=.tuple #[s.val,.int .i64 (zKf (Con.con x) (Con.con a)).2.1,.bool (zKf (Con.con x) (Con.con a)).2.2]∧Con.con s=(zKf (Con.con x) (Con.con a)).1∧s.Ok h'∧Mine h h' s:=by
 rw [zAQ]
 refine zdn (fun A W=>by simp) Tryz.func44 rfl rfl (by simp) fun W0=>?_
 repeat' first|refine Wa ?_|refine zhF (fun _=>zAS x a _ hx ha) ?_|(simp only [go_sem,jq,jj,jy,jv,jk,jx];try rfl)|refine Wb ?_|fail
 rw [zAQ]
 refine zc9 rfl (fun hc=>?_) (fun hc=>?_)
 ·rw [Bool.not_eq_true'] at hc
  have hF:zKf (Con.con x) a.l=([],0,false):=by rw [zKf,if_neg (by rw [hc];exact Bool.false_ne_true)]
  rw [hF]
  refine Wk ?_
  exact ⟨⟨none,0,[]⟩,rfl,rfl,znp,Mine.nil⟩
 rw [Bool.not_eq_false'] at hc
 have h6:=zJy hc
 have hz:a.l.length≤1048576:=by omega
 obtain ⟨hR,hC⟩:=zKq hc
 have hR:zAm x.regime=true:=hR
 rw [zKf,if_pos hc]
 have z2:(0:Int) < ((2:Nat):Int):=by decide
 have hF:∀ (L:Sl (Sl DOption)) (eL:L.l.map (fun l=>l.l.map (Con.con (α:=DOption)))=zJu (Con.con x) a.l) (s:Sl Int) (c:Int) (fo:Bool),(s.l,c,fo)=zKe (srW (Con.con x) zzp (LL L) [] [] none)→zKe (srI (Con.con x) (zJu (Con.con x) a.l) [] [] none)=(s.l,c,fo):=fun L eL s c fo es=>by
  have hL:LL L=zJu (Con.con x) a.l:=eL
  rw [es,hL,zKs (by rw [List.length_nil,zJx];omega) (fun y hy=>(by cases hy)) fun l hl y hy=>?_]
  rw [zJu] at hl
  obtain ⟨d,_,rfl⟩:=List.mem_map.1 hl
  exact zGr y hy
 refine Wk ?_
 refine zyW rfl ?_
 refine U_t [0,1,2] rfl ?_
 refine Evs ?_
 refine U_m 3 [9] ⟨?_,?_,trivial⟩
 ·refine U_b 3 0 [0] rfl rfl ?_
  refine Evs ?_
  refine zkr (zKY x a _ hx ha hz) rfl ?_
  rintro v h1 le1 ⟨L,rfl,eL,okL,mL⟩
  try simp only [go_sem,jq,jj,jy,jv,jk,jx]
  refine U_m 4 [9] ⟨?_,?_,trivial⟩
  ·refine U_b 4 0 [] rfl rfl ?_
   refine Evs ?_
   obtain ⟨g1,g2,g3⟩:=zK2 eL
   have hlL:L.l.length=a.l.length:=by have:=congrArg List.length eL;rwa [List.length_map,zJx] at this
   refine zkr (zK1 x L 98 [] zzp _ (Enc.mono le1 hx) okL hR (by omega) g1 g2 (fun s h' hs _ _=>zKZ s h' hs)) rfl ?_
   rintro v h2 le2 ⟨s,c,fo,rfl,es,oks,ms⟩
   try simp only [go_sem,jq,jj,jy,jv,jk,jx]
   refine U_t [5,6,7,8] rfl ?_
   refine Evs ?_
   refine U_1 9 0 [8,7,6] rfl rfl ?_
   refine Evs ?_
   refine U_t [10] rfl ?_
   refine Evs ?_
   refine U_1 11 0 [8] rfl rfl ?_
   refine Evs ?_
   refine U_t [12] rfl ?_
   refine Evs ?_
   refine U_d ?_
   refine Wk ?_
   refine zyW rfl ?_
   refine U_t [0,1,3,2,4,5,6] rfl ?_
   simp only [go_sem,jq,jj,jy,jv,jk,jx,Int.toNat_zero,Nat.zero_mul,Nat.zero_add,Int.le_refl,z2,implies_true,true_and,and_true,and_self]
   refine U_d ?_
   refine Wk ?_
   rw [hF L eL s c fo es]
   exact ⟨s,rfl,con_ints,oks,ms.back le1⟩
  ·refine U_b 9 0 [0] rfl rfl ?_
   refine Evs ?_
   refine U_1 4 0 [] rfl rfl ?_
   refine Evs ?_
   obtain ⟨g1,g2,g3⟩:=zK2 eL
   have hlL:L.l.length=a.l.length:=by have:=congrArg List.length eL;rwa [List.length_map,zJx] at this
   refine zkr (zK1 x L 98 [] zzp _ (Enc.mono le1 hx) okL hR (by omega) g1 g2 (fun s h' hs _ _=>zKZ s h' hs)) rfl ?_
   rintro v h2 le2 ⟨s,c,fo,rfl,es,oks,ms⟩
   try simp only [go_sem,jq,jj,jy,jv,jk,jx]
   refine U_t [5,6,7,8,10] rfl ?_
   refine Evs ?_
   refine U_1 11 0 [8] rfl rfl ?_
   refine Evs ?_
   refine U_t [12] rfl ?_
   refine Evs ?_
   refine U_d ?_
   refine Wk ?_
   refine zyW rfl ?_
   refine U_t [0,1,3,2,4,5,6] rfl ?_
   simp only [go_sem,jq,jj,jy,jv,jk,jx,Int.toNat_zero,Nat.zero_mul,Nat.zero_add,Int.le_refl,z2,implies_true,true_and,and_true,and_self]
   refine U_d ?_
   refine Wk ?_
   rw [hF L eL s c fo es]
   exact ⟨s,rfl,con_ints,oks,ms.back le1⟩
 ·refine U_b 9 0 [1,0] rfl rfl ?_
  refine Evs ?_
  refine U_1 3 0 [0] rfl rfl ?_
  refine Evs ?_
  refine zkr (zKY x a _ hx ha hz) rfl ?_
  rintro v h1 le1 ⟨L,rfl,eL,okL,mL⟩
  try simp only [go_sem,jq,jj,jy,jv,jk,jx]
  refine U_1 4 0 [] rfl rfl ?_
  refine Evs ?_
  obtain ⟨g1,g2,g3⟩:=zK2 eL
  have hlL:L.l.length=a.l.length:=by have:=congrArg List.length eL;rwa [List.length_map,zJx] at this
  refine zkr (zK1 x L 98 [] zzp _ (Enc.mono le1 hx) okL hR (by omega) g1 g2 (fun s h' hs _ _=>zKZ s h' hs)) rfl ?_
  rintro v h2 le2 ⟨s,c,fo,rfl,es,oks,ms⟩
  try simp only [go_sem,jq,jj,jy,jv,jk,jx]
  refine U_t [5,6,7,8,10] rfl ?_
  refine Evs ?_
  refine U_1 11 0 [8] rfl rfl ?_
  refine Evs ?_
  refine U_t [12] rfl ?_
  refine Evs ?_
  refine U_d ?_
  refine Wk ?_
  refine zyW rfl ?_
  refine U_t [0,1,3,2,4,5,6] rfl ?_
  simp only [go_sem,jq,jj,jy,jv,jk,jx,Int.toNat_zero,Nat.zero_mul,Nat.zero_add,Int.le_refl,z2,implies_true,true_and,and_true,and_self]
  refine U_d ?_
  refine Wk ?_
  rw [hF L eL s c fo es]
  exact ⟨s,rfl,con_ints,oks,ms.back le1⟩
end Go.Proofs.YtdejfjdbcggilaaGreat
