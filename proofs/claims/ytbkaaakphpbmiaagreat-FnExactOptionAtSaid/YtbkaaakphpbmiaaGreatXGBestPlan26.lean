/- What functions of the given program compute, as contracts. -/
import Derived.Test.YtbkaaakphpbmiaaGreatXGBestPlan25
set_option linter.unusedVariables false
set_option linter.unusedSimpArgs false
set_option maxRecDepth 4000
open Nat renaming reduceAdd → jq, reduceMul → jj, reduceBEq → jy, reduceLeDiff → jv, reduceLT → jk, reduceEqDiff → jx
open Bool renaming or_eq_false_iff → jp, or_eq_true → jQ, and_eq_true → jJ
open Int renaming toNat_natCast → jW, natCast_nonneg → jY
open Go.Proofs.Tryz renaming prog → jV
namespace Go.Proofs.YtbkaaakphpbmiaaGreat
open Go Go.SL
set_option maxHeartbeats 1000000
def sumC (l:List POption):Int:=(l.map (·.cost)).sum
abbrev BSt:=Option (List Nat × Int)
def upd (st:BSt) (y:List Nat × Int):BSt:=match st with
 | none=>some y
 | some (b,m)=>if y.2 < m then some y else some (b,m)
def cut (st:BSt) (c:Int):Bool:=match st with
 | none=>false
 | some (_,m)=>decide (m≤c)
def srI (x:PHarbour):List (List POption)→List POption→List Nat→BSt→BSt
 | [],p,ch,st=>if cut st (sumC p)=true then st else some (ch,sumC p)
 | l :: L,p,ch,st=>if cut st (sumC p)=true then st else (List.range l.length).foldl (fun st k=>if zK7 x p (l.getD k zJX)=true then srI x L (p ++ [l.getD k zJX]) (ch ++ [k]) st else st) st
def zLi (x:PHarbour):List (List POption)→List POption→List Nat→List (List Nat × Int)
 | [],p,ch=>[(ch,sumC p)]
 | l :: L,p,ch=>(List.range l.length).flatMap fun k=>if zK7 x p (l.getD k zJX)=true then zLi x L (p ++ [l.getD k zJX]) (ch ++ [k]) else []
theorem zLj {p:List POption} {o:POption}:sumC (p ++ [o])=sumC p+o.cost:=by
 rw [sumC,List.map_append,List.sum_append];simp [sumC]
theorem zLk {l:List POption} {k:Nat} (hk:k < l.length):l.getD k zJX ∈ l:=by
 rw [List.getD_eq_getElem?_getD,List.getElem?_eq_getElem hk];exact List.getElem_mem hk
theorem zLl {b:List Nat} {m:Int}:∀ {l:List (List Nat × Int)},(∀ y ∈ l,m≤y.2)→l.foldl upd (some (b,m))=some (b,m)
 | [],_=>rfl
 | y :: l,h=>by
  have h1:=h y (List.mem_cons_self ..)
  rw [List.foldl_cons,show upd (some (b,m)) y=some (b,m) by rw [upd,if_neg (by omega)],zLl fun z hz=>h z (List.mem_cons_of_mem _ hz)]
theorem zLm {α β γ:Type} {f:α→List β} {g:γ→β→γ}:∀ {l:List α} {z:γ},(l.flatMap f).foldl g z=l.foldl (fun z a=>(f a).foldl g z) z
 | [],_=>rfl
 | a :: l,z=>by rw [List.flatMap_cons,List.foldl_append,List.foldl_cons,zLm]
theorem zLn {α γ:Type} {f g:γ→α→γ}:∀ {l:List α} {z:γ},(∀ a ∈ l,∀ z,f z a=g z a)→l.foldl f z=l.foldl g z
 | [],_,_=>rfl
 | a :: l,z,h=>by rw [List.foldl_cons,List.foldl_cons,h a (List.mem_cons_self ..),zLn fun b hb=>h b (List.mem_cons_of_mem _ hb)]
theorem zLo {x:PHarbour}:∀ {L:List (List POption)} {p:List POption} {ch:List Nat},(∀ l ∈ L,∀ o ∈ l,0≤o.cost)→∀ y ∈ zLi x L p ch,sumC p≤y.2
 | [],p,ch,_,y,hy=>by rw [zLi,List.mem_singleton] at hy;rw [hy];exact Int.le_refl _
 | l :: L,p,ch,h,y,hy=>by
  rw [zLi] at hy
  obtain ⟨k,hk,hy⟩:=List.mem_flatMap.1 hy
  have hk:=List.mem_range.1 hk
  split at hy
  ·have:=zLo (fun l hl=>h l (List.mem_cons_of_mem _ hl)) y hy
   have:=h l (List.mem_cons_self ..) _ (zLk hk)
   rw [zLj] at *
   omega
  ·cases hy
theorem zLp {x:PHarbour}:∀ {L:List (List POption)} {p:List POption} {ch:List Nat} {st:BSt},(∀ l ∈ L,∀ o ∈ l,0≤o.cost)→srI x L p ch st=(zLi x L p ch).foldl upd st
 | [],p,ch,st,_=>by
  rw [srI,zLi,List.foldl_cons,List.foldl_nil]
  cases st with
  | none=>rfl
  | some s =>
   obtain ⟨b,m⟩:=s
   rw [cut,upd]
   by_cases hm:m≤sumC p
   ·rw [if_pos (decide_eq_true hm),if_neg (by simp only;omega)]
   ·rw [if_neg (by rw [decide_eq_true_eq];exact hm),if_pos (by simp only;omega)]
 | l :: L,p,ch,st,h=>by
  have hge:=zLo (x:=x) (p:=p) (ch:=ch) h
  rw [srI]
  split
  ·rename_i hc
   cases st with
   | none=>cases hc
   | some s =>
    obtain ⟨b,m⟩:=s
    have hm:m≤sumC p:=of_decide_eq_true hc
    exact (zLl fun y hy=>Int.le_trans hm (hge y hy)).symm
  ·rw [zLi,zLm]
   refine zLn fun k hk st=>?_
   split
   ·exact zLp fun l hl=>h l (List.mem_cons_of_mem _ hl)
   ·rfl
theorem zLq (l:List Int):∀ k,k≤l.length→∀ i,i < k→l.getD (zuA l k).toNat 0≤l.getD i 0
 | 0,_,i,hi=>absurd hi (Nat.not_lt_zero i)
 | k+1,hk,i,hi=>by
  simp only [zuA]
  rcases zuB l k with ⟨rfl,h⟩|h
  ·rw [h,if_pos (.inl (by decide)),show i=0 by omega];exact Int.le_refl _
  ·split
   ·rename_i hc
    have hc:l.getD k 0 < l.getD (zuA l k).toNat 0:=by omega
    rw [jW]
    rcases Nat.lt_or_ge i k with hik|hik
    ·have:=zLq l k (by omega) i hik;omega
    ·rw [show i=k by omega];exact Int.le_refl _
   ·rename_i hc
    rcases Nat.lt_or_ge i k with hik|hik
    ·exact zLq l k (by omega) i hik
    ·rw [show i=k by omega];omega
theorem zLr {l:List POption} {o:POption} (ho:o ∈ l):flr l≤o.cost:=by
 obtain ⟨i,hi,rfl⟩:=List.getElem_of_mem ho
 have h1:=zza l
 rcases h1 with ⟨h1,_⟩|⟨h1,h2⟩
 ·subst h1;cases hi
 ·rw [flr,if_neg (by omega)]
  have h3:=zLq (l.map (·.cost)) l.length (by rw [List.length_map];exact Nat.le_refl _) i hi
  rw [zuC] at h1 h2 ⊢
  generalize (zuA (l.map (·.cost)) l.length)=q at *
  have hq:q.toNat < l.length:=by omega
  rw [List.getD_eq_getElem?_getD,List.getD_eq_getElem?_getD,List.getElem?_map,List.getElem?_map,List.getElem?_eq_getElem hq,List.getElem?_eq_getElem hi] at h3
  rw [List.getD_eq_getElem?_getD,List.getElem?_eq_getElem hq]
  exact h3
def zLs:List (List POption)→Int
 | []=>0
 | l :: L=>zLs L+flr l
noncomputable def srS (x:PHarbour):List (List POption)→List POption→List Nat→BSt→BSt
 | [],p,ch,st=>if cut st (sumC p)=true then st else if zKk x.crew x.chart x.fleet (zKE p)=true then some (ch,sumC p) else st
 | l :: L,p,ch,st=>if cut st (sumC p+zLs (l :: L))=true then st else (List.range l.length).foldl (fun st k=>if zK6 x p (l.getD k zJX)=true then srS x L (p ++ [l.getD k zJX]) (ch ++ [k]) st else st) st
noncomputable def zLt (x:PHarbour):List (List POption)→List POption→List Nat→List (List Nat × Int)
 | [],p,ch=>if zKk x.crew x.chart x.fleet (zKE p)=true then [(ch,sumC p)] else []
 | l :: L,p,ch=>(List.range l.length).flatMap fun k=>if zK6 x p (l.getD k zJX)=true then zLt x L (p ++ [l.getD k zJX]) (ch ++ [k]) else []
theorem zLu {x:PHarbour}:∀ {L:List (List POption)} {p:List POption} {ch:List Nat},∀ y ∈ zLt x L p ch,sumC p+zLs L≤y.2
 | [],p,ch,y,hy=>by
  rw [zLt] at hy
  split at hy
  ·rw [List.mem_singleton.1 hy,zLs];simp
  ·cases hy
 | l :: L,p,ch,y,hy=>by
  rw [zLt] at hy
  obtain ⟨k,hk,hy⟩:=List.mem_flatMap.1 hy
  have hk:=List.mem_range.1 hk
  split at hy
  ·have h1:=zLu y hy
   have h2:=zLr (zLk hk)
   rw [zLj] at h1
   rw [zLs]
   omega
  ·cases hy
theorem zLv {x:PHarbour}:∀ {L:List (List POption)} {p:List POption} {ch:List Nat} {st:BSt},srS x L p ch st=(zLt x L p ch).foldl upd st
 | [],p,ch,st=>by
  rw [srS,zLt]
  cases st with
  | none =>
   rw [if_neg (show ¬ cut none (sumC p)=true from Bool.false_ne_true)]
   split <;> rfl
  | some s =>
   obtain ⟨b,m⟩:=s
   rw [cut]
   by_cases hm:m≤sumC p
   ·rw [if_pos (decide_eq_true hm)]
    refine (zLl fun y hy=>?_).symm
    split at hy
    ·rw [List.mem_singleton.1 hy];exact hm
    ·cases hy
   ·rw [if_neg (by rw [decide_eq_true_eq];exact hm)]
    split
    ·rw [List.foldl_cons,List.foldl_nil,upd,if_pos (by simp only;omega)]
    ·rfl
 | l :: L,p,ch,st=>by
  have hge:=zLu (x:=x) (L:=l :: L) (p:=p) (ch:=ch)
  rw [srS]
  split
  ·rename_i hc
   cases st with
   | none=>cases hc
   | some s =>
    obtain ⟨b,m⟩:=s
    have hm:m≤sumC p+zLs (l :: L):=of_decide_eq_true hc
    exact (zLl fun y hy=>Int.le_trans hm (hge y hy)).symm
  ·rw [zLt,zLm]
   refine zLn fun k hk st=>?_
   split
   ·exact zLv
   ·rfl
theorem zLw {x:PHarbour} (hw:zvn x.crew=true):∀ {L:List (List POption)} {p:List POption} {ch:List Nat},(∀ o ∈ p,zBC x.chart x.fleet o.pas)→(∀ l ∈ L,∀ o ∈ l,zBC x.chart x.fleet o.pas)→p.length+L.length≤12→zKX x p=false→zLt x L p ch=[]
 | [],p,ch,hp,hL,h12,hf=>by
  rw [zLt,show zKE p=p.map (·.pas) from rfl,zKY hw hp (by rw [List.length_nil] at h12;omega),hf,if_neg Bool.false_ne_true]
 | l :: L,p,ch,hp,hL,h12,hf=>by
  rw [zLt,List.flatMap_eq_nil_iff]
  intro k hk
  have hk:=List.mem_range.1 hk
  rw [List.length_cons] at h12
  have hg:∀ o ∈ p ++ [l.getD k zJX],zBC x.chart x.fleet o.pas:=fun o ho=>by
   rcases List.mem_append.1 ho with ho|ho
   ·exact hp o ho
   ·rw [List.mem_singleton.1 ho];exact hL l (List.mem_cons_self ..) _ (zLk hk)
  split
  ·refine zLw hw hg (fun l hl=>hL l (List.mem_cons_of_mem _ hl)) (by rw [List.length_append,List.length_singleton];omega) ?_
   cases hh:zKX x (p ++ [l.getD k zJX]) with
   | false=>rfl
   | true=>rw [zK0 hw hg (by rw [List.length_append,List.length_singleton];omega) hh] at hf;cases hf
  ·rfl
theorem zLx {x:PHarbour} (hw:zvn x.crew=true):∀ {L:List (List POption)} {p:List POption} {ch:List Nat},(∀ o ∈ p,zBC x.chart x.fleet o.pas)→(∀ l ∈ L,∀ o ∈ l,zBC x.chart x.fleet o.pas)→p.length+L.length≤12→zKX x p=true→zLt x L p ch=zLi x L p ch
 | [],p,ch,hp,hL,h12,hf=>by
  rw [zLt,zLi,show zKE p=p.map (·.pas) from rfl,zKY hw hp (by rw [List.length_nil] at h12;omega),hf,if_pos rfl]
 | l :: L,p,ch,hp,hL,h12,hf=>by
  rw [zLt,zLi]
  rw [List.length_cons] at h12
  have key:∀ k ∈ List.range l.length,(if zK6 x p (l.getD k zJX)=true then zLt x L (p ++ [l.getD k zJX]) (ch ++ [k]) else [])=(if zK7 x p (l.getD k zJX)=true then zLi x L (p ++ [l.getD k zJX]) (ch ++ [k]) else []):=fun k hk=>by
   have hk:=List.mem_range.1 hk
   have hg:∀ o ∈ p ++ [l.getD k zJX],zBC x.chart x.fleet o.pas:=fun o ho=>by
    rcases List.mem_append.1 ho with ho|ho
    ·exact hp o ho
    ·rw [List.mem_singleton.1 ho];exact hL l (List.mem_cons_self ..) _ (zLk hk)
   have h13:(p ++ [l.getD k zJX]).length+L.length≤12:=by rw [List.length_append,List.length_singleton];omega
   have hL2:∀ l ∈ L,∀ o ∈ l,zBC x.chart x.fleet o.pas:=fun l hl=>hL l (List.mem_cons_of_mem _ hl)
   rw [zK7]
   cases hh:zKX x (p ++ [l.getD k zJX]) with
   | false =>
    rw [Bool.and_false,if_neg Bool.false_ne_true,zLw hw hg hL2 h13 hh]
    split <;> rfl
   | true=>rw [Bool.and_true,zLx hw hg hL2 h13 hh]
  rw [List.flatMap_def,List.flatMap_def,List.map_congr_left key]
theorem zLy {x:PHarbour}:∀ {L:List (List POption)} {p:List POption} {ch:List Nat},[] ∈ L→zLi x L p ch=[]
 | l :: L,p,ch,h=>by
  rw [zLi]
  rcases List.mem_cons.1 h with h|h
  ·rw [← h];rfl
  ·rw [List.flatMap_eq_nil_iff]
   intro k hk
   split
   ·exact zLy h
   ·rfl
noncomputable def zLz (x:PHarbour) (L:List (List POption)):BSt:=open Classical in if [] ∈ L then none else srS x L [] [] none
theorem zLA {x:PHarbour} {L:List (List POption)} (hw:zvn x.crew=true) (hL:∀ l ∈ L,∀ o ∈ l,zBC x.chart x.fleet o.pas) (hc:∀ l ∈ L,∀ o ∈ l,0≤o.cost) (h12:L.length≤12):zLz x L=srI x L [] [] none:=by
 rw [zLz,zLp hc]
 split
 ·rename_i h;rw [zLy h];rfl
 ·rw [zLv,zLx hw (fun o ho=>by cases ho) hL (by simpa using h12) (zKZ hw)]
def zLB (r:BSt):List Int × Int × Bool:=match r with
 | none=>([],0,false)
 | some (w,c)=>(zs w,c,true)
def zLC (x:PHarbour) (calls:List DCall):List Int × Int × Bool:=if zJJ x calls=true then zLB (srI x (zKs x calls) [] [] none) else ([],0,false)
theorem zLD (p:Int) (m:Sl Int) (d:Sl DDuty) (k:Int) (h:Hp) (hm:m.Ok h) (hd:d.Ok h):Ct jV 263 [.int .i64 p,m.val,d.val,.int .i64 k] h fun v h'=>v=.bool (zKT p m.l d.l k)∧h'=h:=by
 have hl:=hd.max
 refine Ct.forget ?_
 refine zdn (fun A W=>by simp) Tryz.func263 rfl rfl (by simp) fun W0=>?_
 refine Wk ?_
 refine zc9 rfl (fun hq=>?_) (fun hq=>?_)
 ·refine Wk ?_
  rw [zKT,decide_eq_true (of_decide_eq_true hq)];rfl
 ·refine Wk ?_
  refine zkj (zBg p m d _ hm hd) rfl ?_
  rintro v h2 le2 ⟨s2,rfl,e2,ok2,m2⟩
  refine Wk ?_
  rw [zKT,decide_eq_false (p:=(d.l.length:Int)≤k) (of_decide_eq_false hq),Bool.false_or];rfl
theorem zLE (a:Sl DOption) (h:Hp) (ha:a.Ok h) (hz:a.l.length≤1048576):Ct jV 210 [a.val] h fun v h'=>∃ s:Sl DOption,v=s.val∧s.l=a.l∧RowAt 84 h' s∧∀ g,s.a=some ⟨g,0,none⟩→h g=none:=by
 have hall:=ha.all (by decide)
 have hd:(h.ldL a.val 4).isSome=true:=by rw [show h.ldL a.val 4=_ from hall];rfl
 refine zdn (fun A W=>by simp) Tryz.func210 rfl rfl (by simp) fun W0=>?_
 repeat' first|refine Wa ?_|(simp only [go_sem,jq,jj,jy,jv,jk,jx,hall,show h.ldL a.val 4=some (a.l.flatMap Enc.enc) from hall,Option.isSome_some,Option.getD_some];try rfl)|refine Wb ?_|fail
 refine ⟨by simp only [maxLen];omega,by omega,?_⟩
 repeat' first|refine Wa ?_|(simp only [go_sem,jq,jj,jy,jv,jk,jx,hall,show h.ldL a.val 4=some (a.l.flatMap Enc.enc) from hall,Option.isSome_some,Option.getD_some];try rfl)|refine Wb ?_|fail
 refine ⟨fun u hu=>by obtain ⟨x,_,hx⟩:=List.mem_flatMap.1 hu;exact Enc.one x u hx,by simp only [maxLen];omega,by omega,?_⟩
 refine znD 1 a.l rfl rfl (Nat.zero_add _) rfl fun s h' e1 R f1 l1 k1=>?_
 refine Wk ?_
 exact ⟨s,rfl,e1,R,f1⟩
theorem zLF {l:List DOption}:(l.map (Con.con (α:=DOption))).flatMap (·.pas)=l.flatMap (·.pas.l):=by
 rw [List.flatMap_map,List.flatMap_def,List.flatMap_def]
 exact congrArg List.flatten (List.map_congr_left fun o _=>zxH _)
theorem zLG {o:DOption}:(Con.con o).pas=o.pas.l:=zxH _
theorem zLH {c:PChart} {l:List POption} {o:POption} (h:0 < o.pas.length):pilD c (l ++ [o])=pilD c l ++ [zxA c (o.pas.getD 0 dQ) (o.pas.getD (o.pas.length - 1) dQ)]:=by
 rw [pilD,List.filter_append,List.map_append]
 simp [pilD,h]
theorem zLI {c:DChart} {l:List DOption} {h:Hp} {f:List DShip} (hc:Enc.ok h c) (hl:∀ o ∈ l,Enc.ok h o) (hg:∀ o ∈ l,zBC (Con.con c) f o.pas.l):∀ d ∈ pilD (Con.con c) (l.map Con.con),Enc.ok h d:=fun d hd=>by
 obtain ⟨y,hy,rfl⟩:=List.mem_map.1 hd
 obtain ⟨o,ho,rfl⟩:=List.mem_map.1 (List.mem_filter.1 hy).1
 obtain ⟨h1,h2,h3⟩:=hg o ho
 have:=zxI (f:=f) (h2:=h) hc (hl o ho).2.2.2
 rw [zxH,zxD h1 h2 h3] at this
 rw [zLG]
 exact this
set_option maxRecDepth 30000 in
theorem zLJ (x:DHarbour) (a:Sl DOption) (h:Hp) (hx:Enc.ok h x) (ha:a.Ok h) (hg:∀ o ∈ a.l,zBC (Con.con x.chart) x.fleet.l o.pas.l) (hz:(a.l.flatMap (·.pas.l)).length≤1048576) (hz2:a.l.length≤1048576):Ct jV 209 [x.v,a.val] h fun v h'=>v=.bool (zKX (Con.con x) (a.l.map Con.con))∧h'=h:=by
 have hl:=ha.max
 refine Ct.forget ?_
 refine zdn (fun A W=>by simp) Tryz.func209 rfl rfl (by simp) fun W0=>?_
 refine Wk ?_
 refine zl0 (ι:=Nat) (fun k=>⟨[(2,true,.c (.p 0 0)),(4,true,.c (.v (.bool false))),(5,true,.c (.s 1)),(6,true,.c (.s 2)),(13,true,.c (.v a.val)),(14,true,.c (.v (.int .i64 a.l.length))),(15,true,.c (.v (.int .i64 k)))],[(0,.box 62 [.v (.int .i64 x.forecast.tide.mean),.v x.forecast.tide.parts.val,.v x.forecast.surges.val,.v x.chart.points.val,.v x.chart.segments.val,.v x.fleet.val,.v (.int .i64 x.regime.gap),.v (.bool x.regime.noMeet),.v (.int .i64 x.crew.tugs),.v (.int .i64 x.crew.pilots),.v (.int .i64 x.crew.rest),.v x.crew.moves.val]),(1,.row 222 5 ((a.l.take k).flatMap (·.pas.l)).length (((a.l.take k).flatMap (·.pas.l)).flatMap Enc.enc)),(2,.row 303 4 (pilD (Con.con x.chart) ((a.l.take k).map Con.con)).length ((pilD (Con.con x.chart) ((a.l.take k).map Con.con)).flatMap Enc.enc))],h,3⟩) (fun k=>k≤a.l.length) (fun k=>a.l.length - k) 0 (Nat.zero_le _) [0,1,2] ?_ ?_
 ·refine Evs ?_
  exact Gk
 intro k hk
 refine Wk ?_
 refine zc9 rfl (fun hd=>?_) (fun hd=>?_)
 ·have hlt:=zjH hd
  have hok:=ha.el hlt
  have hop:a.l[k].pas.Ok h:=hok.2.2.2
  have hall:h.ldL a.l[k].pas.val 5=some (a.l[k].pas.l.flatMap Enc.enc):=Sl.Ok.all hop (by decide)
  have hfl:(a.l.take (k+1)).flatMap (·.pas.l)=(a.l.take k).flatMap (·.pas.l) ++ a.l[k].pas.l:=by rw [List.take_succ_eq_append_getElem hlt,List.flatMap_append];simp
  have hle:((a.l.take (k+1)).flatMap (·.pas.l)).length≤(a.l.flatMap (·.pas.l)).length:=by
   rw [← List.take_append_drop (k+1) a.l,List.flatMap_append,List.take_append_drop,List.length_append];omega
  rw [hfl,List.length_append] at hle
  obtain ⟨h0,hC,hP⟩:=hg _ (List.getElem_mem hlt)
  have hpm:=hop.max
  have hpl:=zCf (c:=Con.con x.chart) (l:=(a.l.take k).map Con.con)
  rw [List.length_map,List.length_take] at hpl
  repeat' first|refine Wa ?_|(simp only [go_sem,jq,jj,jy,jv,jk,jx,zkC ha hlt,ha.some hlt,hlt,jW];try rfl)|refine Wb ?_|fail
  simp only [hall,Option.isSome_some,Option.getD_some,← hfl,← List.flatMap_append,← List.length_append]
  refine ⟨trivial,fun u hu=>zKm hu,by simp only [maxLen];rw [hfl,List.length_append];omega,by rw [hfl,List.length_append];omega,?_⟩
  refine Wk ?_
  refine zc9 rfl (fun hq=>?_) (fun hq=>?_)
  case refine_2=>exact absurd (of_decide_eq_false hq) (by omega)
  have hn1:a.l[k].pas.l.length - 1 < a.l[k].pas.l.length:=by omega
  have hwn:IntKind.i64.wrap ((a.l[k].pas.l.length:Int) - 1)=((a.l[k].pas.l.length - 1:Nat):Int):=by rw [zjz (by omega)];omega
  obtain ⟨g1,g2⟩:=zxE hC h0
  obtain ⟨g3,g4⟩:=zxE hC hn1
  have h0i:(0:Int) < a.l[k].pas.l.length:=by omega
  have ha0:=Sl.Ok.some hop h0
  have hs0:=zky hop h0
  have hs1:=zlO hop h0
  simp only [go_sem,Nat.zero_mul] at hs0 hs1
  refine Wk ?_
  refine znv rfl ?_
  refine U_t [0,1,3,7,9,2,4,8,10,5,11,6,12,13,14] rfl ?_
  simp only [go_sem,jq,jj,jy,jv,jk,jx,ha0,hs0,hs1,h0i,Int.toNat_zero,Nat.zero_mul,Int.le_refl,implies_true,true_and,and_true,zky hop hn1,Sl.Ok.some hop hn1,hn1,jW,hwn,zkC ha hlt,ha.some hlt,hlt]
  refine U_1 15 0 [] rfl rfl ?_
  simp only [go_sem,jq,jj,jy,jv,jk,jx,ha0,hs0,hs1,h0i,Int.toNat_zero,Nat.zero_mul,Int.le_refl,implies_true,true_and,and_true,zky hop hn1,Sl.Ok.some hop hn1,hn1,jW,hwn,zkC ha hlt,ha.some hlt,hlt]
  refine zhF (fun _=>zxF x.chart _ _ _ hx.2.1 g1 g2 g3 g4) ?_
  simp only [go_sem,jq,jj,jy,jv,jk,jx,ha0,hs0,hs1,h0i,Int.toNat_zero,Nat.zero_mul,Int.le_refl,implies_true,true_and,and_true,zky hop hn1,Sl.Ok.some hop hn1,hn1,jW,hwn,zkC ha hlt,ha.some hlt,hlt]
  refine U_1 16 0 [] rfl rfl ?_
  simp only [go_sem,jq,jj,jy,jv,jk,jx,ha0,hs0,hs1,h0i,Int.toNat_zero,Nat.zero_mul,Int.le_refl,implies_true,true_and,and_true,zky hop hn1,Sl.Ok.some hop hn1,hn1,jW,hwn,zkC ha hlt,ha.some hlt,hlt]
  refine U_1 17 0 [] rfl rfl ?_
  simp only [go_sem,jq,jj,jy,jv,jk,jx,ha0,hs0,hs1,h0i,Int.toNat_zero,Nat.zero_mul,Int.le_refl,implies_true,true_and,and_true,zky hop hn1,Sl.Ok.some hop hn1,hn1,jW,hwn,zkC ha hlt,ha.some hlt,hlt]
  refine ⟨by simp only [maxLen];omega,by omega,?_⟩
  refine U_t [18] rfl ?_
  simp only [go_sem,jq,jj,jy,jv,jk,jx,ha0,hs0,hs1,h0i,Int.toNat_zero,Nat.zero_mul,Int.le_refl,implies_true,true_and,and_true,zky hop hn1,Sl.Ok.some hop hn1,hn1,jW,hwn,zkC ha hlt,ha.some hlt,hlt]
  refine U_d ?_
  refine Wk ?_
  have hpd:pilD (Con.con x.chart) ((a.l.take (k+1)).map Con.con)=pilD (Con.con x.chart) ((a.l.take k).map Con.con) ++ [zxA (Con.con x.chart) a.l[k].pas.l[0] a.l[k].pas.l[a.l[k].pas.l.length - 1]]:=by
   rw [List.take_succ_eq_append_getElem hlt,List.map_append,List.map_cons,List.map_nil,zLH (by rw [zLG];exact h0),zLG]
   simp [List.getD_eq_getElem?_getD,h0,hn1]
  refine ⟨k+1,[0,4,6],hlt,by omega,?_⟩
  refine Evs ?_
  rw [hpd,List.flatMap_append,List.length_append]
  exact Gi (zjA hlt (by omega))
 ·have hge:=zjI hd
  have hke:k=a.l.length:=by omega
  rw [hke,List.take_length]
  refine zc6 ?_
  refine Evs ?_
  refine zlE 1 (a.l.flatMap (·.pas.l)) rfl rfl rfl rfl (by decide) (fun y hy=>?_) h (Hp.le_refl _) (Mines.flat (fun _=>rfl) (fun _=>trivial)) fun s h' e1 e2 e3 e4=>?_
  ·obtain ⟨z,hz,hy⟩:=List.mem_flatMap.1 hy
   exact (ha.2.2.2.1 z hz).2.2.2.2.2.2.1 y hy
  have hx1:Enc.ok h' x:=Enc.mono e3 hx
  refine zlE 2 (pilD (Con.con x.chart) (a.l.map Con.con)) rfl rfl rfl rfl (by decide) (zLI hx1.2.1 (fun o ho=>Enc.mono e3 (ha.2.2.2.1 o ho)) hg) h e3 (Mines.flat (fun _=>rfl) (fun _=>trivial)) fun d h2 d1 d2 d3 d4=>?_
  have hx2:Enc.ok h2 x:=Enc.mono d3 hx1
  refine Wk ?_
  refine zkj (zKe x.chart x.fleet s _ hx2.2.1 hx2.2.2.1 (e2.mono d3)) rfl ?_
  rintro v h3 le3 ⟨t,rfl,et,okt,mt⟩
  have hx3:Enc.ok h3 x:=Enc.mono le3 hx2
  have hfc:zJ4 (Con.con x).chart (Con.con x).fleet ((a.l.map Con.con).flatMap (·.pas))=zJ4 (Con.con x.chart) x.fleet.l s.l:=by
   rw [zLF,e1,show (Con.con x).fleet=x.fleet.l from zu4 _];rfl
  have hcw:(Con.con x).crew.moves=x.crew.moves.l:=zBo x.crew
  have okd:=d2.mono le3
  rw [zKX,hfc,hcw]
  cases htd:zJ4 (Con.con x.chart) x.fleet.l s.l with
  | none =>
   refine Evs ?_
   refine Wk ?_
   refine zhF (V:=.bool false) (fun e=>by cases e) ?_
   refine Evs ?_
   refine Wk ?_
   refine zhF (V:=.bool false) (fun e=>by cases e) ?_
   refine Evs ?_
   exact Wk0
  | some dl =>
   rw [htd] at et
   have et:t.l=dl:=et
   refine Evs ?_
   refine Wk ?_
   refine zhF (fun _=>zLD 0 x.crew.moves t x.crew.tugs _ hx3.2.2.2.2.2.2.2 okt) ?_
   refine Evs ?_
   refine Wk ?_
   refine zhF (fun _=>zLD x.crew.rest x.crew.moves d x.crew.pilots _ hx3.2.2.2.2.2.2.2 okd) ?_
   refine Evs ?_
   refine Wk ?_
   rw [et,d1];rfl
theorem zLK {x:DHarbour} {l:List DOption} {o:DOption}:zK6 (Con.con x) (l.map Con.con) (Con.con o)=!(l.any fun p=>zJO (Con.con x.chart) x.regime p.pas.l o.pas.l):=by
 rw [zK6,List.any_map]
 congr 2
 funext p
 simp only [Function.comp,zLG]
 rfl
theorem zLL {α:Type} {f:α→Bool} {l:List α} {k:Nat} (hk:k < l.length) (h0:(l.take k).any f=false) (h1:f l[k]=false):(l.take (k+1)).any f=false:=by
 rw [zJP hk,h0,h1];rfl
set_option maxRecDepth 30000 in
theorem zLM (x:DHarbour) (a:Sl DOption) (o:DOption) (h:Hp) (hx:Enc.ok h x) (ha:a.Ok h) (ho:Enc.ok h o) (hr:zvl x.regime=true) (hg:∀ p ∈ a.l ++ [o],zBC (Con.con x.chart) x.fleet.l p.pas.l) (hz:((a.l ++ [o]).flatMap (·.pas.l)).length≤1048576) (hz2:a.l.length≤1000):Ct jV 130 [x.v,a.val,o.v] h fun v h'=>v=.bool (zK7 (Con.con x) (a.l.map Con.con) (Con.con o))∧h'=h:=by
 have hl:=ha.max
 refine Ct.forget ?_
 refine zdn (fun A W=>by simp) Tryz.func130 rfl rfl (by simp) fun W0=>?_
 refine Wk ?_
 refine zl0 (ι:=Nat) (fun k=>⟨[(1,true,.c (.v a.val)),(3,true,.c (.p 0 0)),(5,true,.c (.p 1 0)),(6,true,.c (.v (.bool false))),(9,true,.c (.v a.val)),(10,true,.c (.v (.int .i64 a.l.length))),(11,true,.c (.v (.int .i64 k)))],[(0,.box 62 [.v (.int .i64 x.forecast.tide.mean),.v x.forecast.tide.parts.val,.v x.forecast.surges.val,.v x.chart.points.val,.v x.chart.segments.val,.v x.fleet.val,.v (.int .i64 x.regime.gap),.v (.bool x.regime.noMeet),.v (.int .i64 x.crew.tugs),.v (.int .i64 x.crew.pilots),.v (.int .i64 x.crew.rest),.v x.crew.moves.val]),(1,.box 84 [.v (.int .i64 o.start),.v (.int .i64 o.arr),.v (.int .i64 o.cost),.v o.pas.val])],h,2⟩) (fun k=>k≤a.l.length∧((a.l.take k).any fun p=>zJO (Con.con x.chart) x.regime p.pas.l o.pas.l)=false) (fun k=>a.l.length - k) 0 ⟨Nat.zero_le _,rfl⟩ [0,1] ?_ ?_
 ·refine Evs ?_
  exact Gk
 rintro k ⟨hk,hno⟩
 refine Wk ?_
 refine zc9 rfl (fun hd=>?_) (fun hd=>?_)
 ·have hlt:=zjH hd
  repeat' first|refine Wa ?_|refine zhF (fun _=>zJ1 x.chart x.regime a.l[k].pas o.pas _ hx.2.1 hr (ha.el hlt).2.2.2 ho.2.2.2) ?_|(simp only [go_sem,jq,jj,jy,jv,jk,jx,zkC ha hlt,ha.some hlt,hlt,jW];try rfl)|refine Wb ?_|fail
  refine zc9 rfl (fun hq=>?_) (fun hq=>?_)
  ·refine Wk ?_
   rw [zK7,zLK,zJQ (f:=fun p=>zJO (Con.con x.chart) x.regime p.pas.l o.pas.l) hlt hq]
   rfl
  ·refine Wk ?_
   refine ⟨k+1,[0,1],⟨hlt,zLL hlt hno hq⟩,by omega,?_⟩
   refine Evs ?_
   exact Gi (zjA hlt (by omega))
 ·have hge:=zjI hd
  have hke:k=a.l.length:=by omega
  rw [hke,List.take_length] at hno
  refine zc6 ?_
  refine Evs ?_
  refine zc3 ?_
  refine znv rfl ?_
  refine U_t [0,1,3] rfl ?_
  refine Evs ?_
  refine U_m 2 [4] ⟨?_,?_,trivial⟩
  ·refine U_b 2 0 [3,0] rfl rfl ?_
   refine Evs ?_
   refine zkj (zLE a _ ha (by omega)) rfl ?_
   rintro v h1 le1 ⟨q,rfl,eq1,Rq,fq⟩
   refine Evs ?_
   refine U_1 4 0 [0] rfl rfl ?_
   refine Evs ?_
   refine U_1 5 3 [0] rfl rfl ?_
   refine Evs ?_
   refine znE (s:=q) rfl Rq (fun g hg=>.inl (fq g hg)) ?_
   refine Evs ?_
   refine ⟨rfl,by rw [eq1];simp only [maxLen];omega,by rw [eq1];omega,fun ad cap h2 P=>?_⟩
   have P':Pub (znC h1 q) 84 (Enc.size DOption) (q.l ++ [o]).length ((q.l ++ [o]).flatMap Enc.enc) ad cap h2:=by
    rw [List.length_append,List.flatMap_append];exact P
   have led:h.le (znC h1 q):=znF le1 fq Rq.addr
   have k2:(Sl.mk ad cap (q.l ++ [o])).Ok h2:=Pub.sl (by decide) P' fun y hy=>by
    rcases List.mem_append.1 hy with hy|hy
    ·exact Enc.mono led (ha.2.2.2.1 y (by rw [← eq1];exact hy))
    ·rw [List.mem_singleton.1 hy];exact Enc.mono led ho
   have le2:h.le h2:=Hp.le_trans led P'.le
   rw [show Value.slice ad (q.l.length+1) cap=(Sl.mk ad cap (q.l ++ [o])).val from by simp only [Sl.val,List.length_append,List.length_singleton]]
   try simp only [go_sem,jq,jj,jy,jv,jk,jx]
   refine U_1 6 0 [] rfl rfl ?_
   refine Evs ?_
   refine zhF (fun _=>zLJ x ⟨ad,cap,q.l ++ [o]⟩ _ (Enc.mono le2 hx) k2 (by rw [eq1];exact hg) (by rw [eq1];exact hz) (by rw [eq1,List.length_append,List.length_singleton];omega)) ?_
   try simp only [go_sem,jq,jj,jy,jv,jk,jx]
   rw [eq1,List.map_append]
   refine U_t [7] rfl ?_
   refine Evs ?_
   refine U_d ?_
   refine Wk ?_
   rw [zK7,zLK,hno]
   rfl
  ·refine U_b 4 0 [0] rfl rfl ?_
   refine Evs ?_
   refine U_1 2 0 [0] rfl rfl ?_
   refine Evs ?_
   refine zkj (zLE a _ ha (by omega)) rfl ?_
   rintro v h1 le1 ⟨q,rfl,eq1,Rq,fq⟩
   refine Evs ?_
   refine U_1 5 3 [0] rfl rfl ?_
   refine Evs ?_
   refine znE (s:=q) rfl Rq (fun g hg=>.inl (fq g hg)) ?_
   refine Evs ?_
   refine ⟨rfl,by rw [eq1];simp only [maxLen];omega,by rw [eq1];omega,fun ad cap h2 P=>?_⟩
   have P':Pub (znC h1 q) 84 (Enc.size DOption) (q.l ++ [o]).length ((q.l ++ [o]).flatMap Enc.enc) ad cap h2:=by
    rw [List.length_append,List.flatMap_append];exact P
   have led:h.le (znC h1 q):=znF le1 fq Rq.addr
   have k2:(Sl.mk ad cap (q.l ++ [o])).Ok h2:=Pub.sl (by decide) P' fun y hy=>by
    rcases List.mem_append.1 hy with hy|hy
    ·exact Enc.mono led (ha.2.2.2.1 y (by rw [← eq1];exact hy))
    ·rw [List.mem_singleton.1 hy];exact Enc.mono led ho
   have le2:h.le h2:=Hp.le_trans led P'.le
   rw [show Value.slice ad (q.l.length+1) cap=(Sl.mk ad cap (q.l ++ [o])).val from by simp only [Sl.val,List.length_append,List.length_singleton]]
   try simp only [go_sem,jq,jj,jy,jv,jk,jx]
   refine U_1 6 0 [] rfl rfl ?_
   refine Evs ?_
   refine zhF (fun _=>zLJ x ⟨ad,cap,q.l ++ [o]⟩ _ (Enc.mono le2 hx) k2 (by rw [eq1];exact hg) (by rw [eq1];exact hz) (by rw [eq1,List.length_append,List.length_singleton];omega)) ?_
   try simp only [go_sem,jq,jj,jy,jv,jk,jx]
   rw [eq1,List.map_append]
   refine U_t [7] rfl ?_
   refine Evs ?_
   refine U_d ?_
   refine Wk ?_
   rw [zK7,zLK,hno]
   rfl
theorem zLN {x:PHarbour} {calls:List DCall} (h:zJJ x calls=true):zvl x.regime=true∧zva x.chart=true:=by
 rw [zJJ,zvo] at h
 simp only [jJ] at h
 exact ⟨h.1.1.1.2,h.1.1.1.1.1.2⟩
def srW (x:PHarbour) (w:List POption→Int):List (List POption)→List POption→List Nat→BSt→BSt
 | [],p,ch,st=>if cut st (w p)=true then st else some (ch,w p)
 | l :: L,p,ch,st=>if cut st (w p)=true then st else (List.range l.length).foldl (fun st k=>if zK7 x p (l.getD k zJX)=true then srW x w L (p ++ [l.getD k zJX]) (ch ++ [k]) st else st) st
theorem zLQ {p:List POption} (h6:p.length≤6) (hc:∀ o ∈ p,0≤o.cost∧o.cost≤2880):zJx p=sumC p:=by
 have key:∀ (p:List POption) (z:Int),(∀ o ∈ p,0≤o.cost∧o.cost≤2880)→0≤z→z+2880 * (p.length:Int)≤1000000→p.foldl (fun t o=>IntKind.i64.wrap (t+o.cost)) z=z+sumC p:=by
  intro p
  induction p with
  | nil=>intro z _ _ _;simp [sumC]
  | cons o p ih =>
   intro z hc h0 h1
   obtain ⟨c0,c1⟩:=hc o (List.mem_cons_self ..)
   rw [List.length_cons] at h1
   rw [List.foldl_cons,zjz (by omega),ih _ (fun y hy=>hc y (List.mem_cons_of_mem _ hy)) (by omega) (by push_cast at h1;omega)]
   simp only [sumC,List.map_cons,List.sum_cons]
   omega
 rw [zJx,key p 0 hc (Int.le_refl _) (by omega)]
 omega
theorem zLR {x:PHarbour}:∀ {L:List (List POption)} {p:List POption} {ch:List Nat} {st:BSt},p.length+L.length≤6→(∀ o ∈ p,0≤o.cost∧o.cost≤2880)→(∀ l ∈ L,∀ o ∈ l,0≤o.cost∧o.cost≤2880)→srW x zJx L p ch st=srI x L p ch st
 | [],p,ch,st,h6,hp,_=>by rw [srW,srI,zLQ (by simpa using h6) hp]
 | l :: L,p,ch,st,h6,hp,hL=>by
  rw [List.length_cons] at h6
  rw [srW,srI,zLQ (by omega) hp]
  split
  ·rfl
  ·refine zLn fun k hk st=>?_
   have hk:=List.mem_range.1 hk
   split
   ·refine zLR (by rw [List.length_append,List.length_singleton];omega) (fun o ho=>?_) fun l hl=>hL l (List.mem_cons_of_mem _ hl)
    rcases List.mem_append.1 ho with ho|ho
    ·exact hp o ho
    ·rw [List.mem_singleton.1 ho];exact hL l (List.mem_cons_self ..) _ (zLk hk)
   ·rfl
def BS (st:BSt) (be:Sl Int) (m0 m1:Int) (fo:Bool):Prop:=match st with
 | none=>fo=false∧be.l=[]∧m0=0∧m1=0
 | some (w,c)=>fo=true∧be.l=zs w∧m0=c∧m1=0
def zLS (a0 a1 b0 b1:Int):Bool:=decide (a0 < b0) || (decide (a0=b0) && decide (a1 < b1))
theorem zLT {st:BSt} {be:Sl Int} {m0 m1 c:Int} {fo:Bool} (h:BS st be m0 m1 fo):(fo && !zLS c 0 m0 m1)=cut st c:=by
 cases st with
 | none=>rw [show fo=false from h.1];rfl
 | some s =>
  obtain ⟨w',c'⟩:=s
  obtain ⟨rfl,-,rfl,rfl⟩:=h
  rw [cut,zLS,Bool.eq_iff_iff]
  simp only [Bool.true_and,Bool.not_eq_true',jp,Bool.and_eq_false_iff,decide_eq_false_iff_not,decide_eq_true_eq]
  omega
def RowF {α:Type} [Enc α] (e:TypeId) (hb h:Hp) (b:Nat) (s:Sl α):Prop:=RowAt e h s∧∀ g,s.a=some ⟨g,0,none⟩→hb g=none∧g ≠ b
def Apart {α β:Type} (s:Sl α) (t:Sl β):Prop:=∀ g,s.a=some ⟨g,0,none⟩→t.a ≠ some ⟨g,0,none⟩
theorem Apart.symm {α β:Type} {s:Sl α} {t:Sl β} (H:Apart s t):Apart t s:=fun g h1 h2=>H g h2 h1
theorem zLU {α:Type} [Enc α] {e:TypeId} {h h2:Hp} {s:Sl α} (H:RowAt e h s) (hle:h.le h2):RowAt e h2 s:=H.keep fun g hg=>by
 cases hh:h g with
 | none=>exact (zAZ H hg hh).elim
 | some o=>exact hle g o hh
theorem RowF.grow {α:Type} [Enc α] {e:TypeId} {hb h h2:Hp} {b:Nat} {s:Sl α} (H:RowF e hb h b s) (hle:h.le h2):RowF e hb h2 b s:=⟨zLU H.1 hle,H.2⟩
theorem RowF.ins {α:Type} [Enc α] {e:TypeId} {hb h:Hp} {b:Nat} {s:Sl α} {o:Obj} (H:RowF e hb h b s):RowF e hb (h.ins b o) b s:=⟨H.1.keep fun g hg=>Hp.ins_ne (H.2 g hg).2,H.2⟩
theorem RowF.cut {α:Type} [Enc α] {e:TypeId} {hb h:Hp} {b:Nat} {s:Sl α} {k:Nat} (H:RowF e hb h b s) (hk:k≤s.l.length):RowF e hb h b (s.to k):=⟨zAX H.1 hk,H.2⟩
theorem zLV {α:Type} [Enc α] {e:TypeId} {hb h h2:Hp} {b:Nat} {s:Sl α} {l:List α} {ad:Option Addr} {cap:Nat} (hle:hb.le h) (hbn:h b ≠ none) (R:RowF e hb h b s) (P:Pub (znC h s) e (Enc.size α) l.length (l.flatMap Enc.enc) ad cap h2) :
  hb.le h2∧h2 b=h b∧RowF e hb h2 b (Sl.mk ad cap l)∧∀ {β:Type} [Enc β] {e':TypeId} {t:Sl β},RowF e' hb h b t→Apart s t→RowF e' hb h2 b t∧Apart (Sl.mk ad cap l) t:=by
 obtain ⟨R1,F1⟩:=R
 obtain ⟨p1,p2,p3⟩:=zAY R1 P
 have fr:∀ g,ad=some ⟨g,0,none⟩→hb g=none∧g ≠ b:=fun g hg=>by
  rcases p2 g hg with x|x
  ·refine ⟨?_,fun e=>hbn (by rw [← e];exact x)⟩
   cases hh:hb g with
   | none=>rfl
   | some o=>rw [hle g o hh] at x;cases x
  ·exact F1 g x
 refine ⟨fun k o hk=>?_,p3 b (fun g hg e=>(fr g hg).2 e.symm) (fun g hg e=>(F1 g hg).2 e.symm),⟨p1,fr⟩,fun {β} _ {e'} {t} Rt A=>?_⟩
 ·rw [p3 k (fun g hg e=>by subst e;rw [(fr _ hg).1] at hk;cases hk) (fun g hg e=>by subst e;rw [(F1 _ hg).1] at hk;cases hk)]
  exact hle k o hk
 ·have no:∀ g,ad=some ⟨g,0,none⟩→t.a ≠ some ⟨g,0,none⟩:=fun g hg ht=>by
   rcases p2 g hg with x|x
   ·exact zAZ Rt.1 ht x
   ·exact A g x ht
  refine ⟨⟨Rt.1.keep fun g hg=>p3 g (fun g' hg' e=>?_) (fun g' hg' e=>?_),Rt.2⟩,no⟩
  ·subst e;exact no _ hg' hg
  ·subst e;exact A _ hg' hg
def plC (x:DHarbour) (L:Sl (Sl DOption)) (wf:Value) (p:Sl DOption) (ch be:Sl Int) (m0 m1:Int) (fo:Bool):List Value:=[.int .i64 x.forecast.tide.mean,x.forecast.tide.parts.val,x.forecast.surges.val,x.chart.points.val,x.chart.segments.val,x.fleet.val,.int .i64 x.regime.gap,.bool x.regime.noMeet,.int .i64 x.crew.tugs,.int .i64 x.crew.pilots,.int .i64 x.crew.rest,x.crew.moves.val,L.val,wf,p.val,ch.val,be.val,.int .i64 m0,.int .i64 m1,.bool fo]
structure PV (hb h:Hp) (b:Nat) (x:DHarbour) (L:Sl (Sl DOption)) (wf:Value) (p:Sl DOption) (ch be:Sl Int) (m0 m1:Int) (fo:Bool):Prop where
 le:hb.le h
 ox:Enc.ok hb x
 oL:L.Ok hb
 nb:hb b=none
 bx:h b=some (.cells (plC x L wf p ch be m0 m1 fo).toArray 262 (0,0))
 rp:RowF 84 hb h b p
 op:∀ y ∈ p.l,Enc.ok hb y
 rc:RowF 3 hb h b ch
 rb:RowF 3 hb h b be
 d1:Apart p ch
 d2:Apart p be
 d3:Apart ch be
section
variable {hb h h2:Hp} {b:Nat} {x:DHarbour} {L:Sl (Sl DOption)} {wf:Value} {p p':Sl DOption} {ch be ch' be':Sl Int} {m0 m1 m0' m1':Int} {fo fo':Bool}
theorem zLW (H:h b=some (.cells (plC x L wf p ch be m0 m1 fo).toArray 262 (0,0))):h.lds (some ⟨b,0,none⟩) 12=some [.int .i64 x.forecast.tide.mean,x.forecast.tide.parts.val,x.forecast.surges.val,x.chart.points.val,x.chart.segments.val,x.fleet.val,.int .i64 x.regime.gap,.bool x.regime.noMeet,.int .i64 x.crew.tugs,.int .i64 x.crew.pilots,.int .i64 x.crew.rest,x.crew.moves.val]∧h.lds (some ⟨b,12,none⟩) 1=some [L.val]∧h.lds (some ⟨b,13,none⟩) 1=some [wf]∧h.lds (some ⟨b,14,none⟩) 1=some [p.val]∧h.lds (some ⟨b,15,none⟩) 1=some [ch.val]∧h.lds (some ⟨b,16,none⟩) 1=some [be.val]∧h.lds (some ⟨b,17,none⟩) 2=some [.int .i64 m0,.int .i64 m1]∧h.lds (some ⟨b,19,none⟩) 1=some [.bool fo]:=by
 unfold plC at H
 refine ⟨?_,?_,?_,?_,?_,?_,?_,?_⟩ <;> exact zmG H rfl (by simp)
theorem PV.nbx (H:PV hb h b x L wf p ch be m0 m1 fo):h b ≠ none:=by rw [H.bx];exact fun e=>by cases e
theorem PV.pok (H:PV hb h b x L wf p ch be m0 m1 fo):p.Ok h:=H.rp.1.ok (by decide) fun y hy=>Enc.mono H.le (H.op y hy)
theorem PV.cok {pn:List Nat} (H:PV hb h b x L wf p ch be m0 m1 fo) (hc:ch.l=zs pn) (hp:∀ y ∈ pn,y < 100):ch.Ok h:=H.rc.1.ok (by decide) fun y hy=>by
 rw [hc] at hy
 obtain ⟨k,hk,rfl⟩:=List.mem_map.1 hy
 have:=hp k hk
 show I64 _;unfold I64;omega
theorem PV.grow (H:PV hb h b x L wf p ch be m0 m1 fo) (hle:h.le h2):PV hb h2 b x L wf p ch be m0 m1 fo :=
 ⟨Hp.le_trans H.le hle,H.ox,H.oL,H.nb,hle _ _ H.bx,H.rp.grow hle,H.op,H.rc.grow hle,H.rb.grow hle,H.d1,H.d2,H.d3⟩
theorem PV.mk2 (H:PV hb h b x L wf p ch be m0 m1 fo) (hle:hb.le h2) (rp:RowF 84 hb h2 b p') (op:∀ y ∈ p'.l,Enc.ok hb y) (rc:RowF 3 hb h2 b ch') (rb:RowF 3 hb h2 b be') (d1:Apart p' ch') (d2:Apart p' be') (d3:Apart ch' be') :
  PV hb (h2.ins b (.cells (plC x L wf p' ch' be' m0' m1' fo').toArray 262 (0,0))) b x L wf p' ch' be' m0' m1' fo':=by
 refine ⟨fun k o hk=>?_,H.ox,H.oL,H.nb,Hp.ins_same,rp.ins,op,rc.ins,rb.ins,d1,d2,d3⟩
 rw [Hp.ins_ne (fun e=>by subst e;rw [H.nb] at hk;cases hk)]
 exact hle k o hk
end
theorem zLX {x:Cx} {st:St} {KH:Hp→Prop} {t:TypeId} {b off:Nat} {u:Value} {xs xs':List Value} {e:TypeId} (ht:hasT x.P t=true) (hs:szT x.P t=1) (hu:SV.cells (.c (.v u))=[.v u]) (h1:u.oneCell'=true) (hb:st.h b=some (.cells xs.toArray e (0,0))) (hown:x.h0 b=none∨x.W0.own b) (hle:off+1≤xs.length) (hx:spl off [u] xs=xs')
  (hk:KH (st.h.ins b (.cells xs'.toArray e (0,0)))):zlk x st t (.c (.v (.pointer (some ⟨b,off,none⟩)))) (.c (.v u)) KH:=by
 refine zlC ht hs hu h1 hb hown (by simpa using hle) ?_
 rw [List.toList_toArray,hx]
 exact hk
theorem zLY {x:Cx} {st:St} {KH:Hp→Prop} {t:TypeId} {b off:Nat} {u w:Value} {xs xs':List Value} {e:TypeId} (ht:hasT x.P t=true) (hs:szT x.P t=2) (h1:u.oneCell'=true) (h2:w.oneCell'=true) (hb:st.h b=some (.cells xs.toArray e (0,0))) (hown:x.h0 b=none∨x.W0.own b) (hle:off+2≤xs.length) (hx:spl off [u,w] xs=xs')
  (hk:KH (st.h.ins b (.cells xs'.toArray e (0,0)))):zlk x st t (.c (.v (.pointer (some ⟨b,off,none⟩)))) (.g [.v u,.v w]) KH:=by
 unfold zlk
 refine ⟨ht,rfl,?_,?_,b,off,xs.toArray,e,rfl,hb,hown,by rw [hs];simpa using hle,?_⟩
 ·show (([SC.v u,SC.v w]:List SC).all fun c=>c.val.oneCell')=true
  simp only [List.all_cons,List.all_nil,Bool.and_true,SC.val,h1,h2]
 ·rw [hs];rfl
 ·show KH (st.h.ins b (.cells (zbG off [u,w] xs.toArray.toList).toArray e (0,0)))
  rw [List.toList_toArray,show zbG off [u,w] xs=xs' from hx]
  exact hk
theorem zLZ (a0 a1 b0 b1:Int) (h:Hp):Ct jV 264 [.agg #[.int .i64 a0,.int .i64 a1],.agg #[.int .i64 b0,.int .i64 b1]] h fun v h'=>v=.bool (zLS a0 a1 b0 b1)∧h'=h:=by
 have n1:Int.toNat (1:Int)=1:=rfl
 have z2:(0:Int) < ((2:Nat):Int):=by decide
 have o2:(1:Int) < ((2:Nat):Int):=by decide
 have o1:(0:Int)≤1:=by decide
 refine zdn (fun A W=>by simp) Tryz.func264 rfl rfl (by simp) fun W0=>?_
 repeat' first|refine Wa ?_|(simp only [go_sem,jq,jj,jy,jv,jk,jx,z2,o2,o1,Int.toNat_zero,n1,Nat.zero_mul,Nat.one_mul,Nat.zero_add,Nat.mul_one,Int.le_refl,implies_true,true_and,and_true,and_self];try rfl)|refine Wb ?_|fail
def z0H (f:DOption→DOption→Bool) (o:DOption) (b:Sl DOption):List Bool:=b.l.map (f o)
def z0I (f:DOption→DOption→Bool) (a b:Sl DOption):List (List Bool):=a.l.map fun o=>z0H f o b
def z0J (f:DOption→DOption→Bool) (L:List (Sl DOption)) (a:Sl DOption):List (List (List Bool)):=L.map (z0I f a)
def z0K (f:DOption→DOption→Bool) (L:List (Sl DOption)):List (List (List (List Bool))):=L.map (z0J f L)
def con2 (s:Sl (Sl Bool)):List (List Bool):=s.l.map (·.l)
def con3 (s:Sl (Sl (Sl Bool))):List (List (List Bool)):=s.l.map con2
def con4 (s:Sl (Sl (Sl (Sl Bool)))):List (List (List (List Bool))):=s.l.map con3
def cl (x:DHarbour) (o p:DOption):Bool:=zJO (Con.con x.chart) x.regime o.pas.l p.pas.l
theorem zMm {α β γ:Type} {f:α→β} {g:γ→β} {l:List α} {l2:List γ} (h:l.map f=l2.map g) {i:Nat} (hi:i < l.length) (hi2:i < l2.length):f l[i]=g l2[i]:=by
 have h1:(l.map f)[i]?=(l2.map g)[i]?:=by rw [h]
 rw [List.getElem?_map,List.getElem?_map,List.getElem?_eq_getElem hi,List.getElem?_eq_getElem hi2] at h1
 exact Option.some.inj h1
theorem zMn {α β γ:Type} {f:α→β} {g:γ→β} {l:List α} {l2:List γ} (h:l.map f=l2.map g):l.length=l2.length:=by
 have:=congrArg List.length h
 rwa [List.length_map,List.length_map] at this
set_option maxRecDepth 30000 in
theorem z0L (x:DHarbour) (L:Sl (Sl DOption)) (h:Hp) (hx:Enc.ok h x) (hL:L.Ok h) (hL6:L.l.length≤6) (hLn:∀ l ∈ L.l,l.l.length≤90) (hok:L.l ≠ []→zva (Con.con x.chart)=true∧zvl x.regime=true):Ct jV 211 [x.v,L.val] h fun v h'=>∃ s:Sl (Sl (Sl (Sl Bool))),v=s.val∧con4 s=z0K (cl x) L.l∧s.Ok h':=by
 have hl:=hL.max
 refine zdn (fun A W=>by simp) Tryz.func211 rfl rfl (by simp) fun W0=>?_
 refine Wk ?_
 refine zl0 (ι:=Nat × List (Sl (Sl (Sl Bool))) × Hp) (fun t=>⟨[(1,true,.c (.v L.val)),(2,true,.c (.p 0 0)),(4,true,.c (.v (.slice none 0 0))),(5,true,.c (.s 1)),(18,true,.c (.v L.val)),(19,true,.c (.v (.int .i64 L.l.length))),(20,true,.c (.v (.int .i64 t.1)))],[(0,.box 62 [.v (.int .i64 x.forecast.tide.mean),.v x.forecast.tide.parts.val,.v x.forecast.surges.val,.v x.chart.points.val,.v x.chart.segments.val,.v x.fleet.val,.v (.int .i64 x.regime.gap),.v (.bool x.regime.noMeet),.v (.int .i64 x.crew.tugs),.v (.int .i64 x.crew.pilots),.v (.int .i64 x.crew.rest),.v x.crew.moves.val]),(1,.row 308 1 t.1 (t.2.1.flatMap Enc.enc))],t.2.2,2⟩) (fun t=>t.1≤L.l.length∧t.2.1.length=t.1∧t.2.1.map con3=(L.l.take t.1).map (z0J (cl x) L.l)∧(∀ y ∈ t.2.1,Enc.ok t.2.2 y)∧h.le t.2.2) (fun t=>L.l.length - t.1) (0,[],h) ⟨Nat.zero_le _,rfl,rfl,fun y hy=>(by cases hy),Hp.le_refl _⟩ [0,1] ?_ ?_
 ·refine Evs ?_
  exact Gk
 rintro ⟨i,os,h1⟩ ⟨hi,hn1,hm1,ho1,le1⟩
 simp only at hi hn1 hm1 ho1 le1
 have hL1:=hL.mono le1
 refine Wk ?_
 refine zc9 rfl (fun hdi=>?_) (fun hdi=>?_)
 ·have hlt1:=zjH hdi
  obtain ⟨hC,hR⟩:=hok (fun e=>by rw [e] at hlt1;cases hlt1)
  have hmx1:=hLn _ (List.getElem_mem hlt1)
  repeat' first|refine Wa ?_|(simp only [go_sem,jq,jj,jy,jv,jk,jx,zku hL1 hlt1,hL1.some hlt1,hlt1,jW];try rfl)|refine Wb ?_|fail
  refine zl0 (ι:=Nat × List (Sl (Sl Bool)) × Hp) (fun t=>⟨[(1,true,.c (.v L.val)),(2,true,.c (.p 0 0)),(4,true,.c (.v (.slice none 0 0))),(5,true,.c (.s 1)),(7,true,.c (.v L.l[i].val)),(8,true,.c (.s 2)),(18,true,.c (.v L.val)),(19,true,.c (.v (.int .i64 L.l.length))),(20,true,.c (.v (.int .i64 i))),(25,true,.c (.v L.val)),(26,true,.c (.v (.int .i64 L.l.length))),(27,true,.c (.v (.int .i64 t.1)))],[(0,.box 62 [.v (.int .i64 x.forecast.tide.mean),.v x.forecast.tide.parts.val,.v x.forecast.surges.val,.v x.chart.points.val,.v x.chart.segments.val,.v x.fleet.val,.v (.int .i64 x.regime.gap),.v (.bool x.regime.noMeet),.v (.int .i64 x.crew.tugs),.v (.int .i64 x.crew.pilots),.v (.int .i64 x.crew.rest),.v x.crew.moves.val]),(1,.row 308 1 i (os.flatMap Enc.enc)),(2,.row 309 1 t.1 (t.2.1.flatMap Enc.enc))],t.2.2,3⟩) (fun t=>t.1≤L.l.length∧t.2.1.length=t.1∧t.2.1.map con2=(L.l.take t.1).map (z0I (cl x) L.l[i])∧(∀ y ∈ t.2.1,Enc.ok t.2.2 y)∧h1.le t.2.2) (fun t=>L.l.length - t.1) (0,[],h1) ⟨Nat.zero_le _,rfl,rfl,fun y hy=>(by cases hy),Hp.le_refl _⟩ [0,1,2] ?_ ?_
  ·refine Evs ?_
   exact Gk
  rintro ⟨j,rs,h2⟩ ⟨hij,hn2,hm2,ho2,le2⟩
  simp only at hij hn2 hm2 ho2 le2
  have le02:=Hp.le_trans le1 le2
  have hL2:=hL.mono le02
  refine Wk ?_
  refine zc9 rfl (fun hdj=>?_) (fun hdj=>?_)
  ·have hlt2:=zjH hdj
   have hmx2:=hLn _ (List.getElem_mem hlt2)
   repeat' first|refine Wa ?_|(simp only [go_sem,jq,jj,jy,jv,jk,jx,zku hL2 hlt2,hL2.some hlt2,hlt2,jW];try rfl)|refine Wb ?_|fail
   refine zl0 (ι:=Nat × List (Sl Bool) × Hp) (fun t=>⟨[(1,true,.c (.v L.val)),(2,true,.c (.p 0 0)),(4,true,.c (.v (.slice none 0 0))),(5,true,.c (.s 1)),(7,true,.c (.v L.l[i].val)),(8,true,.c (.s 2)),(10,true,.c (.v L.l[j].val)),(11,true,.c (.s 3)),(18,true,.c (.v L.val)),(19,true,.c (.v (.int .i64 L.l.length))),(20,true,.c (.v (.int .i64 i))),(25,true,.c (.v L.val)),(26,true,.c (.v (.int .i64 L.l.length))),(27,true,.c (.v (.int .i64 j))),(32,true,.c (.v L.l[i].val)),(33,true,.c (.v (.int .i64 L.l[i].l.length))),(34,true,.c (.v (.int .i64 t.1)))],[(0,.box 62 [.v (.int .i64 x.forecast.tide.mean),.v x.forecast.tide.parts.val,.v x.forecast.surges.val,.v x.chart.points.val,.v x.chart.segments.val,.v x.fleet.val,.v (.int .i64 x.regime.gap),.v (.bool x.regime.noMeet),.v (.int .i64 x.crew.tugs),.v (.int .i64 x.crew.pilots),.v (.int .i64 x.crew.rest),.v x.crew.moves.val]),(1,.row 308 1 i (os.flatMap Enc.enc)),(2,.row 309 1 j (rs.flatMap Enc.enc)),(3,.row 159 1 t.1 (t.2.1.flatMap Enc.enc))],t.2.2,4⟩) (fun t=>t.1≤L.l[i].l.length∧t.2.1.length=t.1∧t.2.1.map (·.l)=(L.l[i].l.take t.1).map (fun o=>z0H (cl x) o L.l[j])∧(∀ y ∈ t.2.1,Enc.ok t.2.2 y)∧h2.le t.2.2) (fun t=>L.l[i].l.length - t.1) (0,[],h2) ⟨Nat.zero_le _,rfl,rfl,fun y hy=>(by cases hy),Hp.le_refl _⟩ [0,1,2,3] ?_ ?_
   ·refine Evs ?_
    exact Gk
   rintro ⟨n,ts,h3⟩ ⟨hin,hn3,hm3,ho3,le3⟩
   simp only at hin hn3 hm3 ho3 le3
   have le03:=Hp.le_trans le02 le3
   have hx4:Enc.ok h3 x:=Enc.mono le03 hx
   have hL3:=hL.mono le03
   have hao:L.l[i].Ok h3:=Sl.Ok.el hL3 hlt1
   have hbo:L.l[j].Ok h3:=Sl.Ok.el hL3 hlt2
   refine Wk ?_
   refine zc9 rfl (fun hdn=>?_) (fun hdn=>?_)
   ·have hlt3:=zjH hdn
    repeat' first|refine Wa ?_|(simp only [go_sem,jq,jj,jy,jv,jk,jx,zkC hao hlt3,hao.some hlt3,hlt3,jW];try rfl)|refine Wb ?_|fail
    refine zl0 (ι:=Nat) (fun m=>⟨[(1,true,.c (.v L.val)),(2,true,.c (.p 0 0)),(4,true,.c (.v (.slice none 0 0))),(5,true,.c (.s 1)),(7,true,.c (.v L.l[i].val)),(8,true,.c (.s 2)),(10,true,.c (.v L.l[j].val)),(11,true,.c (.s 3)),(13,true,.c (.p 4 0)),(14,true,.c (.s 5)),(18,true,.c (.v L.val)),(19,true,.c (.v (.int .i64 L.l.length))),(20,true,.c (.v (.int .i64 i))),(25,true,.c (.v L.val)),(26,true,.c (.v (.int .i64 L.l.length))),(27,true,.c (.v (.int .i64 j))),(32,true,.c (.v L.l[i].val)),(33,true,.c (.v (.int .i64 L.l[i].l.length))),(34,true,.c (.v (.int .i64 n))),(39,true,.c (.v L.l[j].val)),(40,true,.c (.v (.int .i64 L.l[j].l.length))),(41,true,.c (.v (.int .i64 m)))],[(0,.box 62 [.v (.int .i64 x.forecast.tide.mean),.v x.forecast.tide.parts.val,.v x.forecast.surges.val,.v x.chart.points.val,.v x.chart.segments.val,.v x.fleet.val,.v (.int .i64 x.regime.gap),.v (.bool x.regime.noMeet),.v (.int .i64 x.crew.tugs),.v (.int .i64 x.crew.pilots),.v (.int .i64 x.crew.rest),.v x.crew.moves.val]),(1,.row 308 1 i (os.flatMap Enc.enc)),(2,.row 309 1 j (rs.flatMap Enc.enc)),(3,.row 159 1 n (ts.flatMap Enc.enc)),(4,.box 84 [.v (.int .i64 L.l[i].l[n].start),.v (.int .i64 L.l[i].l[n].arr),.v (.int .i64 L.l[i].l[n].cost),.v L.l[i].l[n].pas.val]),(5,.row 4 1 m (((L.l[j].l.take m).map (cl x L.l[i].l[n])).flatMap Enc.enc))],h3,6⟩) (fun m=>m≤L.l[j].l.length) (fun m=>L.l[j].l.length - m) 0 (Nat.zero_le _) [0,1,2,3,4,5] ?_ ?_
    ·refine Evs ?_
     exact Gk
    intro m hm
    refine Wk ?_
    refine zc9 rfl (fun hdm=>?_) (fun hdm=>?_)
    ·have hlt4:=zjH hdm
     repeat' first|refine Wa ?_|refine zhF (fun _=>z0i x.chart x.regime L.l[i].l[n].pas L.l[j].l[m].pas _ hx4.2.1 hR hC (Sl.Ok.el hao hlt3).2.2.2 (Sl.Ok.el hbo hlt4).2.2.2) ?_|(simp only [go_sem,jq,jj,jy,jv,jk,jx,zkC hbo hlt4,hbo.some hlt4,hlt4,jW];try rfl)|refine Wb ?_|fail
     refine ⟨by simp only [maxLen];omega,by omega,?_⟩
     refine Wk ?_
     refine ⟨m+1,[0,1,2,3,4,8],hlt4,by omega,?_⟩
     refine Evs ?_
     rw [zFd hlt4,List.flatMap_append]
     exact Gi (zjA hlt4 (by omega))
    ·have hgem:=zjI hdm
     have hme:m=L.l[j].l.length:=by omega
     rw [hme,List.take_length]
     refine zc6 ?_
     refine Evs ?_
     refine zOy 5 (z0H (cl x) L.l[i].l[n] L.l[j]) rfl rfl (List.length_map ..).symm rfl (by decide) (fun _ _=>trivial) fun s h' e1 e2 le4 _ _=>?_
     refine Wk ?_
     refine ⟨by simp only [maxLen];omega,by omega,?_⟩
     refine Wk ?_
     refine ⟨(n+1,ts ++ [s],h'),[0,1,2,7],⟨hlt3,by simp [hn3],by rw [List.map_append,hm3,zFd hlt3,List.map_cons,List.map_nil,e1],fun y hy=>?_,Hp.le_trans le3 le4⟩,by simp only;omega,?_⟩
     ·rcases List.mem_append.1 hy with hy|hy
      ·exact Enc.mono le4 (ho3 y hy)
      ·rw [List.mem_singleton.1 hy];exact e2
     refine Evs ?_
     rw [List.flatMap_append]
     have lle:=Hp.le_trans le03 le4
     exact Gi (zjA hlt3 (by omega))
   ·have hgen:=zjI hdn
    have hne:n=L.l[i].l.length:=by omega
    refine zc6 ?_
    refine Evs ?_
    refine zOy 3 ts rfl rfl hn3.symm rfl (by decide) ho3 fun s h' e1 e2 le4 _ _=>?_
    refine Wk ?_
    refine ⟨by simp only [maxLen];omega,by omega,?_⟩
    refine Wk ?_
    refine ⟨(j+1,rs ++ [s],h'),[0,1,5],⟨hlt2,by simp [hn2],?_,fun y hy=>?_,Hp.le_trans le2 (Hp.le_trans le3 le4)⟩,by simp only;omega,?_⟩
    ·rw [List.map_append,hm2,zFd hlt2,List.map_cons,List.map_nil,con2,e1,hm3,hne,List.take_length];rfl
    ·rcases List.mem_append.1 hy with hy|hy
     ·exact Enc.mono (Hp.le_trans le3 le4) (ho2 y hy)
     ·rw [List.mem_singleton.1 hy];exact e2
    refine Evs ?_
    rw [List.flatMap_append]
    have lle:=Hp.le_trans le03 le4
    exact Gi (zjA hlt2 (by omega))
  ·have hgej:=zjI hdj
   have hje:j=L.l.length:=by omega
   refine zc6 ?_
   refine Evs ?_
   refine zOy 2 rs rfl rfl hn2.symm rfl (by decide) ho2 fun s h' e1 e2 le4 _ _=>?_
   refine Wk ?_
   refine ⟨by simp only [maxLen];omega,by omega,?_⟩
   refine Wk ?_
   refine ⟨(i+1,os ++ [s],h'),[0,4],⟨hlt1,by simp [hn1],?_,fun y hy=>?_,Hp.le_trans le1 (Hp.le_trans le2 le4)⟩,by simp only;omega,?_⟩
   ·rw [List.map_append,hm1,zFd hlt1,List.map_cons,List.map_nil,con3,e1,hm2,hje,List.take_length];rfl
   ·rcases List.mem_append.1 hy with hy|hy
    ·exact Enc.mono (Hp.le_trans le2 le4) (ho1 y hy)
    ·rw [List.mem_singleton.1 hy];exact e2
   refine Evs ?_
   rw [List.flatMap_append]
   have lle:=Hp.le_trans le02 le4
   exact Gi (zjA hlt1 (by omega))
 ·have hge:=zjI hdi
  have hie:i=L.l.length:=by omega
  refine zc6 ?_
  refine Evs ?_
  refine zOy 1 os rfl rfl hn1.symm rfl (by decide) ho1 fun s h' e1 e2 _ _ _=>?_
  refine Wk ?_
  exact ⟨s,rfl,by rw [con4,e1,hm1,hie,List.take_length];rfl,e2⟩
theorem z0M {f:DOption→DOption→Bool} {s:Sl (Sl (Sl (Sl Bool)))} {L:List (Sl DOption)} (h:con4 s=z0K f L) {i j n m:Nat} (hi:i < L.length) (hj:j < L.length) (hn:n < L[i].l.length) (hm:m < L[j].l.length) :
  ∃ (h1:i < s.l.length) (h2:j < s.l[i].l.length) (h3:n < s.l[i].l[j].l.length) (h4:m < s.l[i].l[j].l[n].l.length),s.l[i].l[j].l[n].l[m]=f L[i].l[n] L[j].l[m]:=by
 have h1:i < s.l.length:=by rw [zMn h];exact hi
 have e1:=zMm h h1 hi
 have h2:j < s.l[i].l.length:=by rw [zMn e1];exact hj
 have e2:=zMm e1 h2 hj
 have h3:n < s.l[i].l[j].l.length:=by rw [zMn e2];exact hn
 have e3:=zMm e2 h3 hn
 have l3:s.l[i].l[j].l[n].l.length=L[j].l.length:=by rw [e3,z0H,List.length_map]
 have h4:m < s.l[i].l[j].l[n].l.length:=by rw [l3];exact hm
 refine ⟨h1,h2,h3,h4,?_⟩
 have e4:(s.l[i].l[j].l[n].l)[m]?=(z0H f L[i].l[n] L[j])[m]?:=by rw [e3]
 rw [List.getElem?_eq_getElem h4,z0H,List.getElem?_map,List.getElem?_eq_getElem hm] at e4
 exact Option.some.inj e4
end Go.Proofs.YtbkaaakphpbmiaaGreat
