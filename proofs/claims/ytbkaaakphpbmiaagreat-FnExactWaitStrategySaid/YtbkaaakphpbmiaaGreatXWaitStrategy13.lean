/- What functions of the given program compute, as contracts. -/
import Derived.Test.YtbkaaakphpbmiaaGreatXWaitStrategy11
import Derived.Test.YtbkaaakphpbmiaaGreatXWaitStrategy12
set_option linter.unusedVariables false
set_option linter.unusedSimpArgs false
set_option maxRecDepth 4000
open Nat renaming reduceAdd → jq, reduceMul → jj, reduceBEq → jy, reduceLeDiff → jv, reduceLT → jk, reduceEqDiff → jx, zero_add → jb, zero_mul → jA, zero_le → jC, sub_zero → qQ, le_refl → qV, not_lt_zero → qE, mul_one → wy, lt_or_ge → wv, le_trans → wK, one_mul → JQ, lt_of_le_of_lt → JK, strongRecOn → JP
open Bool renaming or_eq_false_iff → jp, or_eq_true → jQ, and_eq_true → jJ, not_eq_true' → jd, not_eq_false' → jf, true_and → qp, and_false → qP, false_ne_true → qa, and_eq_false_iff → qA, and_true → wJ, or_false → wC, eq_iff_iff → yq, or_true → uw
open Int renaming toNat_natCast → jW, natCast_nonneg → jY, toNat_zero → je, le_refl → qF
open Go.SL.Con renaming con → jK
open Option renaming isSome_some → jX, getD_some → jc
open List renaming length_append → jP, getD_eq_getElem?_getD → ja, length_singleton → jg, toList_toArray → jE, flatMap_append → jF, length_map → jH, take_succ_eq_append_getElem → qw, take_of_length_le → qy, length_cons → qv, length_nil → qY, getElem?_eq_getElem → qX, getElem_mem → qd, mem_cons_of_mem → qg, map_append → qB, mem_cons_self → qC, take_length → qG, getElem_map → qH, getElem_of_mem → qL, map_cons → wx, flatMap_cons → wV, map_congr_left → wb, range → wg, foldl_cons → wH, foldl_append → yp, mem_singleton → ya, range_succ → yg, mem_of_mem_take → yB, getElem?_map → yC, map_nil → yD, getElem_append_left → yH, foldl_nil → uY, take_left' → uP, length → ud, getElem_append_right → uC, flatMap_eq_nil_iff → Jv, drop_eq_getElem_cons → JX, flatMap_def → Jd, drop_of_length_le → Jf
open Go.SL.Hp renaming le_trans → jB, ins_ins → qf, ins_same → qD, le_refl → wW, ins_ne → JJ
open Go.SL.Enc renaming ok → jD, mono → jL, enc → qx, size → wA
open Go.Proofs.Tryz renaming prog → jV
namespace Go.Proofs.YtbkaaakphpbmiaaGreat
open Go Go.SL
set_option maxHeartbeats 1000000
def sumC (l:List POption):Int:=(l.map (·.cost)).sum
abbrev BSt:=Option (List Nat × Int)
def upd (st:BSt) (y:List Nat × Int):BSt:=match st with
 | none=>some y
 | some (b,m)=>if y.2 < m then some y else some (b,m)
def cut (st:BSt) (c:Int):Bool:=match st with
 | none=>false
 | some (_,m)=>decide (m≤c)
def srI (x:PHarbour):List (List POption)→List POption→List Nat→BSt→BSt
 | [],p,ch,st=>if cut st (sumC p)=true then st else some (ch,sumC p)
 | l :: L,p,ch,st=>if cut st (sumC p)=true then st else (wg l.length).foldl (fun st k=>if zK7 x p (l.getD k zGU)=true then srI x L (p ++ [l.getD k zGU]) (ch ++ [k]) st else st) st
def zMs (x:PHarbour):List (List POption)→List POption→List Nat→List (List Nat × Int)
 | [],p,ch=>[(ch,sumC p)]
 | l :: L,p,ch=>(wg l.length).flatMap fun k=>if zK7 x p (l.getD k zGU)=true then zMs x L (p ++ [l.getD k zGU]) (ch ++ [k]) else []
theorem zMt {p:List POption} {o:POption}:sumC (p ++ [o])=sumC p+o.cost:=by
 rw [sumC,qB,List.sum_append];simp [sumC]
theorem zMu {l:List POption} {k:Nat} (a:k < l.length):l.getD k zGU ∈ l:=by
 rw [ja,qX a];exact qd a
theorem zMv {b:List Nat} {m:Int}:∀ {l:List (List Nat × Int)},(∀ y ∈ l,m≤y.2)→l.foldl upd (some (b,m))=some (b,m)
 | [],_=>rfl
 | y :: l,h=>by
  have c:=h y (qC ..)
  rw [wH,show upd (some (b,m)) y=some (b,m) by rw [upd,if_neg (by omega)],zMv fun z a=>h z (qg _ a)]
theorem zMw {α β γ:Type} {f:α→List β} {g:γ→β→γ}:∀ {l:List α} {z:γ},(l.flatMap f).foldl g z=l.foldl (fun z a=>(f a).foldl g z) z
 | [],_=>rfl
 | a :: l,z=>by rw [wV,yp,wH,zMw]
theorem zMx {α γ:Type} {f g:γ→α→γ}:∀ {l:List α} {z:γ},(∀ a ∈ l,∀ z,f z a=g z a)→l.foldl f z=l.foldl g z
 | [],_,_=>rfl
 | a :: l,z,h=>by rw [wH,wH,h a (qC ..),zMx fun b c=>h b (qg _ c)]
theorem zMy {x:PHarbour}:∀ {L:List (List POption)} {p:List POption} {ch:List Nat},(∀ l ∈ L,∀ o ∈ l,0≤o.cost)→∀ y ∈ zMs x L p ch,sumC p≤y.2
 | [],p,ch,_,y,a=>by rw [zMs,ya] at a;rw [a];exact qF _
 | l :: L,p,ch,h,y,a=>by
  rw [zMs] at a
  obtain ⟨k,b,a⟩:=List.mem_flatMap.1 a
  have b:=List.mem_range.1 b
  split at a
  ·have:=zMy (fun l c=>h l (qg _ c)) y a
   have:=h l (qC ..) _ (zMu b)
   rw [zMt] at *
   omega
  ·cases a
theorem zMz {x:PHarbour}:∀ {L:List (List POption)} {p:List POption} {ch:List Nat} {st:BSt},(∀ l ∈ L,∀ o ∈ l,0≤o.cost)→srI x L p ch st=(zMs x L p ch).foldl upd st
 | [],p,ch,st,_=>by
  rw [srI,zMs,wH,uY]
  cases st with
  | none=>rfl
  | some s =>
   obtain ⟨b,m⟩:=s
   rw [cut,upd]
   by_cases a:m≤sumC p
   ·rw [if_pos (JG a),if_neg (by simp only;omega)]
   ·rw [if_neg (by rw [JD];exact a),if_pos (by simp only;omega)]
 | l :: L,p,ch,st,h=>by
  have c:=zMy (x:=x) (p:=p) (ch:=ch) h
  rw [srI]
  split
  ·rename_i d
   cases st with
   | none=>cases d
   | some s =>
    obtain ⟨b,m⟩:=s
    have a:m≤sumC p:=JE d
    exact (zMv fun y e=>Int.le_trans a (c y e)).symm
  ·rw [zMs,zMw]
   refine zMx fun k g st=>?_
   split
   ·exact zMz fun l f=>h l (qg _ f)
   ·rfl
theorem zMA (l:List Int):∀ k,k≤l.length→∀ i,i < k→l.getD (zAJ l k).toNat 0≤l.getD i 0
 | 0,_,i,b=>absurd b (qE i)
 | k+1,d,i,b=>by
  simp only [zAJ]
  rcases zAK l k with ⟨rfl,h⟩|h
  ·rw [h,if_pos (.inl (by decide)),show i=0 by omega];exact qF _
  ·split
   ·rename_i c
    have c:l.getD k 0 < l.getD (zAJ l k).toNat 0:=by omega
    rw [jW]
    rcases wv i k with a|a
    ·have:=zMA l k (by omega) i a;omega
    ·rw [show i=k by omega];exact qF _
   ·rename_i c
    rcases wv i k with a|a
    ·exact zMA l k (by omega) i a
    ·rw [show i=k by omega];omega
theorem zMB {l:List POption} {o:POption} (e:o ∈ l):flr l≤o.cost:=by
 obtain ⟨i,b,rfl⟩:=qL e
 have a:=zHj l
 rcases a with ⟨a,_⟩|⟨a,h2⟩
 ·subst a;cases b
 ·rw [flr,if_neg (by omega)]
  have c:=zMA (l.map (·.cost)) l.length (by rw [jH];exact qV _) i b
  rw [zAL] at a h2 ⊢
  generalize (zAJ (l.map (·.cost)) l.length)=q at *
  have d:q.toNat < l.length:=by omega
  rw [ja,ja,yC,yC,qX d,qX b] at c
  rw [ja,qX d]
  exact c
def zMC:List (List POption)→Int
 | []=>0
 | l :: L=>zMC L+flr l
noncomputable def srS (x:PHarbour):List (List POption)→List POption→List Nat→BSt→BSt
 | [],p,ch,st=>if cut st (sumC p)=true then st else if zKb x.crew x.chart x.fleet (zKB p)=true then some (ch,sumC p) else st
 | l :: L,p,ch,st=>if cut st (sumC p+zMC (l :: L))=true then st else (wg l.length).foldl (fun st k=>if zK6 x p (l.getD k zGU)=true then srS x L (p ++ [l.getD k zGU]) (ch ++ [k]) st else st) st
noncomputable def zMD (x:PHarbour):List (List POption)→List POption→List Nat→List (List Nat × Int)
 | [],p,ch=>if zKb x.crew x.chart x.fleet (zKB p)=true then [(ch,sumC p)] else []
 | l :: L,p,ch=>(wg l.length).flatMap fun k=>if zK6 x p (l.getD k zGU)=true then zMD x L (p ++ [l.getD k zGU]) (ch ++ [k]) else []
theorem zME {x:PHarbour}:∀ {L:List (List POption)} {p:List POption} {ch:List Nat},∀ y ∈ zMD x L p ch,sumC p+zMC L≤y.2
 | [],p,ch,y,a=>by
  rw [zMD] at a
  split at a
  ·rw [List.mem_singleton.1 a,zMC];simp
  ·cases a
 | l :: L,p,ch,y,a=>by
  rw [zMD] at a
  obtain ⟨k,b,a⟩:=List.mem_flatMap.1 a
  have b:=List.mem_range.1 b
  split at a
  ·have c:=zME y a
   have h2:=zMB (zMu b)
   rw [zMt] at c
   rw [zMC]
   omega
  ·cases a
theorem zMF {x:PHarbour}:∀ {L:List (List POption)} {p:List POption} {ch:List Nat} {st:BSt},srS x L p ch st=(zMD x L p ch).foldl upd st
 | [],p,ch,st=>by
  rw [srS,zMD]
  cases st with
  | none =>
   rw [if_neg (show ¬ cut none (sumC p)=true from qa)]
   split <;> rfl
  | some s =>
   obtain ⟨b,m⟩:=s
   rw [cut]
   by_cases a:m≤sumC p
   ·rw [if_pos (JG a)]
    refine (zMv fun y c=>?_).symm
    split at c
    ·rw [List.mem_singleton.1 c];exact a
    ·cases c
   ·rw [if_neg (by rw [JD];exact a)]
    split
    ·rw [wH,uY,upd,if_pos (by simp only;omega)]
    ·rfl
 | l :: L,p,ch,st=>by
  have d:=zME (x:=x) (L:=l :: L) (p:=p) (ch:=ch)
  rw [srS]
  split
  ·rename_i e
   cases st with
   | none=>cases e
   | some s =>
    obtain ⟨b,m⟩:=s
    have a:m≤sumC p+zMC (l :: L):=JE e
    exact (zMv fun y c=>Int.le_trans a (d y c)).symm
  ·rw [zMD,zMw]
   refine zMx fun k f st=>?_
   split
   ·exact zMF
   ·rfl
theorem zMG {x:PHarbour} (d:zBE x.crew=true):∀ {L:List (List POption)} {p:List POption} {ch:List Nat},(∀ o ∈ p,zKs x.chart x.fleet o.pas)→(∀ l ∈ L,∀ o ∈ l,zKs x.chart x.fleet o.pas)→p.length+L.length≤12→zKU x p=false→zMD x L p ch=[]
 | [],p,ch,e,f,a,c=>by
  rw [zMD,show zKB p=p.map (·.pas) from rfl,zKZ d e (by rw [qY] at a;omega),c,if_neg qa]
 | l :: L,p,ch,e,f,a,c=>by
  rw [zMD,Jv]
  intro k g
  have g:=List.mem_range.1 g
  rw [qv] at a
  have h:∀ o ∈ p ++ [l.getD k zGU],zKs x.chart x.fleet o.pas:=fun o b=>by
   rcases List.mem_append.1 b with b|b
   ·exact e o b
   ·rw [List.mem_singleton.1 b];exact f l (qC ..) _ (zMu g)
  split
  ·refine zMG d h (fun l i=>f l (qg _ i)) (by rw [jP,jg];omega) ?_
   cases j:zKU x (p ++ [l.getD k zGU]) with
   | false=>rfl
   | true=>rw [zK1 d h (by rw [jP,jg];omega) j] at c;cases c
  ·rfl
theorem zMH {x:PHarbour} (e:zBE x.crew=true):∀ {L:List (List POption)} {p:List POption} {ch:List Nat},(∀ o ∈ p,zKs x.chart x.fleet o.pas)→(∀ l ∈ L,∀ o ∈ l,zKs x.chart x.fleet o.pas)→p.length+L.length≤12→zKU x p=true→zMD x L p ch=zMs x L p ch
 | [],p,ch,f,g,a,i=>by
  rw [zMD,zMs,show zKB p=p.map (·.pas) from rfl,zKZ e f (by rw [qY] at a;omega),i,if_pos rfl]
 | l :: L,p,ch,f,g,a,i=>by
  rw [zMD,zMs]
  rw [qv] at a
  have j:∀ k ∈ wg l.length,(if zK6 x p (l.getD k zGU)=true then zMD x L (p ++ [l.getD k zGU]) (ch ++ [k]) else [])=(if zK7 x p (l.getD k zGU)=true then zMs x L (p ++ [l.getD k zGU]) (ch ++ [k]) else []):=fun k h=>by
   have h:=List.mem_range.1 h
   have m:∀ o ∈ p ++ [l.getD k zGU],zKs x.chart x.fleet o.pas:=fun o b=>by
    rcases List.mem_append.1 b with b|b
    ·exact f o b
    ·rw [List.mem_singleton.1 b];exact g l (qC ..) _ (zMu h)
   have c:(p ++ [l.getD k zGU]).length+L.length≤12:=by rw [jP,jg];omega
   have d:∀ l ∈ L,∀ o ∈ l,zKs x.chart x.fleet o.pas:=fun l q=>g l (qg _ q)
   rw [zK7]
   cases n:zKU x (p ++ [l.getD k zGU]) with
   | false =>
    rw [qP,if_neg qa,zMG e m d c n]
    split <;> rfl
   | true=>rw [wJ,zMH e m d c n]
  rw [Jd,Jd,wb j]
theorem zMI {x:PHarbour}:∀ {L:List (List POption)} {p:List POption} {ch:List Nat},[] ∈ L→zMs x L p ch=[]
 | l :: L,p,ch,h=>by
  rw [zMs]
  rcases List.mem_cons.1 h with h|h
  ·rw [← h];rfl
  ·rw [Jv]
   intro k a
   split
   ·exact zMI h
   ·rfl
noncomputable def zMJ (x:PHarbour) (L:List (List POption)):BSt:=open Classical in if [] ∈ L then none else srS x L [] [] none
theorem zMK {x:PHarbour} {L:List (List POption)} (a:zBE x.crew=true) (c:∀ l ∈ L,∀ o ∈ l,zKs x.chart x.fleet o.pas) (d:∀ l ∈ L,∀ o ∈ l,0≤o.cost) (b:L.length≤12):zMJ x L=srI x L [] [] none:=by
 rw [zMJ,zMz d]
 split
 ·rename_i h;rw [zMI h];rfl
 ·rw [zMF,zMH a (fun o e=>by cases e) c (by simpa using b) (zK0 a)]
def zML (r:BSt):List Int × Int × Bool:=match r with
 | none=>([],0,false)
 | some (w,c)=>(zs w,c,true)
def zMM (x:PHarbour) (calls:List DCall):List Int × Int × Bool:=if zB5 x calls=true then zML (srI x (zKH x calls) [] [] none) else ([],0,false)
theorem zMN {x:DHarbour} {l:List DOption} {o:DOption}:zK6 (jK x) (l.map jK) (jK o)=!(l.any fun p=>zCq (jK x.chart) x.regime p.pas.l o.pas.l):=by
 rw [zK6,List.any_map]
 congr 2
 funext p
 simp only [Function.comp,zLc]
 rfl
theorem zMO {α:Type} {f:α→Bool} {l:List α} {k:Nat} (a:k < l.length) (h0:(l.take k).any f=false) (b:f l[k]=false):(l.take (k+1)).any f=false:=by
 rw [zCr a,h0,b];rfl
set_option maxRecDepth 30000 in
theorem zMP (x:DHarbour) (a:Sl DOption) (o:DOption) (h:Hp) (G:jD h x) (m:a.Ok h) (H:jD h o) (Q:zBC x.regime=true) (r:∀ p ∈ a.l ++ [o],zKs (jK x.chart) x.fleet.l p.pas.l) (N:((a.l ++ [o]).flatMap (·.pas.l)).length≤1048576) (R:a.l.length≤1000):Ct jV 130 [x.v,a.val,o.v] h fun v h'=>v=.bool (zK7 (jK x) (a.l.map jK) (jK o))∧h'=h:=by
 have Y:=m.max
 refine Ct.forget ?_
 refine zdn (fun A W=>by simp) Tryz.func130 rfl rfl (by simp) fun W0=>?_
 refine Wk ?_
 refine zng (ι:=Nat) (fun k=>⟨[(1,true,.c (.v a.val)),(3,true,.c (.p 0 0)),(5,true,.c (.p 1 0)),(6,true,.c (.v (.bool false))),(9,true,.c (.v a.val)),(10,true,.c (.v (.int .i64 a.l.length))),(11,true,.c (.v (.int .i64 k)))],[(0,.box 62 [.v (.int .i64 x.forecast.tide.mean),.v x.forecast.tide.parts.val,.v x.forecast.surges.val,.v x.chart.points.val,.v x.chart.segments.val,.v x.fleet.val,.v (.int .i64 x.regime.gap),.v (.bool x.regime.noMeet),.v (.int .i64 x.crew.tugs),.v (.int .i64 x.crew.pilots),.v (.int .i64 x.crew.rest),.v x.crew.moves.val]),(1,.box 84 [.v (.int .i64 o.start),.v (.int .i64 o.arr),.v (.int .i64 o.cost),.v o.pas.val])],h,2⟩) (fun k=>k≤a.l.length∧((a.l.take k).any fun p=>zCq (jK x.chart) x.regime p.pas.l o.pas.l)=false) (fun k=>a.l.length - k) 0 ⟨jC _,rfl⟩ [0,1] ?_ ?_
 ·refine Evs ?_
  exact Gk
 rintro k ⟨Z,n⟩
 refine Wk ?_
 refine zc9 rfl (fun J=>?_) (fun J=>?_)
 ·have d:=zjH J
  repeat' first|refine Wa ?_|refine zhF (fun _=>zHu x.chart x.regime a.l[k].pas o.pas _ G.2.1 Q (m.el d).2.2.2 H.2.2.2) ?_|(simp only [go_sem,jq,jj,jy,jv,jk,jx,zkZ m d,m.some d,d,jW];try rfl)|refine Wb ?_|fail
  refine zc9 rfl (fun K=>?_) (fun K=>?_)
  ·refine Wk ?_
   rw [zK7,zMN,zCs (f:=fun p=>zCq (jK x.chart) x.regime p.pas.l o.pas.l) d K]
   rfl
  ·refine Wk ?_
   refine ⟨k+1,[0,1],⟨d,zMO d n K⟩,by omega,?_⟩
   refine Evs ?_
   exact Gi (zjA d (by omega))
 ·have X:=zjI J
  have O:k=a.l.length:=by omega
  rw [O,qG] at n
  refine zc6 ?_
  refine Evs ?_
  refine zc3 ?_
  refine zz5 rfl ?_
  refine U_t [0,1,3] rfl ?_
  refine Evs ?_
  refine U_m 2 [4] ⟨?_,?_,trivial⟩
  ·refine U_b 2 0 [3,0] rfl rfl ?_
   refine Evs ?_
   refine zkr (zLa a _ m (by omega)) rfl ?_
   rintro v t u ⟨q,rfl,b,w,z⟩
   refine Evs ?_
   refine U_1 4 0 [0] rfl rfl ?_
   refine Evs ?_
   refine U_1 5 3 [0] rfl rfl ?_
   refine Evs ?_
   refine zD6 (s:=q) rfl w (fun g r=>.inl (z g r)) ?_
   refine Evs ?_
   refine ⟨rfl,by rw [b];simp only [maxLen];omega,by rw [b];omega,fun e cap h2 P=>?_⟩
   have D:Pub (zD4 t q) 84 (wA DOption) (q.l ++ [o]).length ((q.l ++ [o]).flatMap qx) e cap h2:=by
    rw [jP,jF];exact P
   have i:h.le (zD4 t q):=zD7 u z w.addr
   have M:(Sl.mk e cap (q.l ++ [o])).Ok h2:=Pub.sl (by decide) D fun y j=>by
    rcases List.mem_append.1 j with j|j
    ·exact jL i (m.2.2.2.1 y (by rw [← b];exact j))
    ·rw [List.mem_singleton.1 j];exact jL i H
   have F:h.le h2:=jB i D.le
   rw [show Value.slice e (q.l.length+1) cap=(Sl.mk e cap (q.l ++ [o])).val from by simp only [Sl.val,jP,jg]]
   try simp only [go_sem,jq,jj,jy,jv,jk,jx]
   refine U_1 6 0 [] rfl rfl ?_
   refine Evs ?_
   refine zhF (fun _=>zLf x ⟨e,cap,q.l ++ [o]⟩ _ (jL F G) M (by rw [b];exact r) (by rw [b];exact N) (by rw [b,jP,jg];omega)) ?_
   try simp only [go_sem,jq,jj,jy,jv,jk,jx]
   rw [b,qB]
   refine U_t [7] rfl ?_
   refine Evs ?_
   refine U_d ?_
   refine Wk ?_
   rw [zK7,zMN,n]
   rfl
  ·refine U_b 4 0 [0] rfl rfl ?_
   refine Evs ?_
   refine U_1 2 0 [0] rfl rfl ?_
   refine Evs ?_
   refine zkr (zLa a _ m (by omega)) rfl ?_
   rintro v t u ⟨q,rfl,b,w,z⟩
   refine Evs ?_
   refine U_1 5 3 [0] rfl rfl ?_
   refine Evs ?_
   refine zD6 (s:=q) rfl w (fun g r=>.inl (z g r)) ?_
   refine Evs ?_
   refine ⟨rfl,by rw [b];simp only [maxLen];omega,by rw [b];omega,fun e cap h2 P=>?_⟩
   have D:Pub (zD4 t q) 84 (wA DOption) (q.l ++ [o]).length ((q.l ++ [o]).flatMap qx) e cap h2:=by
    rw [jP,jF];exact P
   have i:h.le (zD4 t q):=zD7 u z w.addr
   have M:(Sl.mk e cap (q.l ++ [o])).Ok h2:=Pub.sl (by decide) D fun y j=>by
    rcases List.mem_append.1 j with j|j
    ·exact jL i (m.2.2.2.1 y (by rw [← b];exact j))
    ·rw [List.mem_singleton.1 j];exact jL i H
   have F:h.le h2:=jB i D.le
   rw [show Value.slice e (q.l.length+1) cap=(Sl.mk e cap (q.l ++ [o])).val from by simp only [Sl.val,jP,jg]]
   try simp only [go_sem,jq,jj,jy,jv,jk,jx]
   refine U_1 6 0 [] rfl rfl ?_
   refine Evs ?_
   refine zhF (fun _=>zLf x ⟨e,cap,q.l ++ [o]⟩ _ (jL F G) M (by rw [b];exact r) (by rw [b];exact N) (by rw [b,jP,jg];omega)) ?_
   try simp only [go_sem,jq,jj,jy,jv,jk,jx]
   rw [b,qB]
   refine U_t [7] rfl ?_
   refine Evs ?_
   refine U_d ?_
   refine Wk ?_
   rw [zK7,zMN,n]
   rfl
theorem zMQ {x:PHarbour} {a:List DCall} (h:zB5 x a=true):zBC x.regime=true∧zBp x.chart=true:=by
 rw [zB5,zBF] at h
 simp only [jJ] at h
 exact ⟨h.1.1.1.2,h.1.1.1.1.1.2⟩
def srW (x:PHarbour) (w:List POption→Int):List (List POption)→List POption→List Nat→BSt→BSt
 | [],p,ch,st=>if cut st (w p)=true then st else some (ch,w p)
 | l :: L,p,ch,st=>if cut st (w p)=true then st else (wg l.length).foldl (fun st k=>if zK7 x p (l.getD k zGU)=true then srW x w L (p ++ [l.getD k zGU]) (ch ++ [k]) st else st) st
theorem zMR {p:List POption} (f:p.length≤6) (a:∀ o ∈ p,0≤o.cost∧o.cost≤2880):zAF p=sumC p:=by
 have b:∀ (p:List POption) (z:Int),(∀ o ∈ p,0≤o.cost∧o.cost≤2880)→0≤z→z+2880 * (p.length:Int)≤1000000→p.foldl (fun t o=>IntKind.i64.wrap (t+o.cost)) z=z+sumC p:=by
  intro p
  induction p with
  | nil=>intro z _ _ _;simp [sumC]
  | cons o p d =>
   intro z a h0 c
   obtain ⟨g,h⟩:=a o (qC ..)
   rw [qv] at c
   rw [wH,zjz (by omega),d _ (fun y e=>a y (qg _ e)) (by omega) (by push_cast at c;omega)]
   simp only [sumC,wx,List.sum_cons]
   omega
 rw [zAF,b p 0 a (qF _) (by omega)]
 omega
theorem zMS {x:PHarbour}:∀ {L:List (List POption)} {p:List POption} {ch:List Nat} {st:BSt},p.length+L.length≤6→(∀ o ∈ p,0≤o.cost∧o.cost≤2880)→(∀ l ∈ L,∀ o ∈ l,0≤o.cost∧o.cost≤2880)→srW x zAF L p ch st=srI x L p ch st
 | [],p,ch,st,c,b,_=>by rw [srW,srI,zMR (by simpa using c) b]
 | l :: L,p,ch,st,c,b,e=>by
  rw [qv] at c
  rw [srW,srI,zMR (by omega) b]
  split
  ·rfl
  ·refine zMx fun k d st=>?_
   have d:=List.mem_range.1 d
   split
   ·refine zMS (by rw [jP,jg];omega) (fun o a=>?_) fun l f=>e l (qg _ f)
    rcases List.mem_append.1 a with a|a
    ·exact b o a
    ·rw [List.mem_singleton.1 a];exact e l (qC ..) _ (zMu d)
   ·rfl
def BS (st:BSt) (be:Sl Int) (m0 m1:Int) (fo:Bool):Prop:=match st with
 | none=>fo=false∧be.l=[]∧m0=0∧m1=0
 | some (w,c)=>fo=true∧be.l=zs w∧m0=c∧m1=0
def zMT (a0 a1 b0 b1:Int):Bool:=decide (a0 < b0) || (decide (a0=b0) && decide (a1 < b1))
theorem zMU {st:BSt} {be:Sl Int} {m0 m1 c:Int} {fo:Bool} (h:BS st be m0 m1 fo):(fo && !zMT c 0 m0 m1)=cut st c:=by
 cases st with
 | none=>rw [show fo=false from h.1];rfl
 | some s =>
  obtain ⟨w',a⟩:=s
  obtain ⟨rfl,-,rfl,rfl⟩:=h
  rw [cut,zMT,yq]
  simp only [qp,jd,jp,qA,JH,JD]
  omega
def RowF {α:Type} [Enc α] (e:TypeId) (hb h:Hp) (b:Nat) (s:Sl α):Prop:=RowAt e h s∧∀ g,s.a=some ⟨g,0,none⟩→hb g=none∧g ≠ b
def Apart {α β:Type} (s:Sl α) (t:Sl β):Prop:=∀ g,s.a=some ⟨g,0,none⟩→t.a ≠ some ⟨g,0,none⟩
theorem Apart.symm {α β:Type} {s:Sl α} {t:Sl β} (H:Apart s t):Apart t s:=fun g a h2=>H g h2 a
theorem zMV {α:Type} [Enc α] {e:TypeId} {h h2:Hp} {s:Sl α} (H:RowAt e h s) (a:h.le h2):RowAt e h2 s:=H.keep fun g c=>by
 cases b:h g with
 | none=>exact (zJD H c b).elim
 | some o=>exact a g o b
theorem RowF.grow {α:Type} [Enc α] {e:TypeId} {hb h h2:Hp} {b:Nat} {s:Sl α} (H:RowF e hb h b s) (a:h.le h2):RowF e hb h2 b s:=⟨zMV H.1 a,H.2⟩
theorem RowF.ins {α:Type} [Enc α] {e:TypeId} {hb h:Hp} {b:Nat} {s:Sl α} {o:Obj} (H:RowF e hb h b s):RowF e hb (h.ins b o) b s:=⟨H.1.keep fun g a=>JJ (H.2 g a).2,H.2⟩
theorem RowF.cut {α:Type} [Enc α] {e:TypeId} {hb h:Hp} {b:Nat} {s:Sl α} {k:Nat} (H:RowF e hb h b s) (a:k≤s.l.length):RowF e hb h b (s.to k):=⟨zJB H.1 a,H.2⟩
theorem zMW {α:Type} [Enc α] {e:TypeId} {hb h h2:Hp} {b:Nat} {s:Sl α} {l:List α} {d:Option Addr} {cap:Nat} (j:hb.le h) (q:h b ≠ none) (R:RowF e hb h b s) (P:Pub (zD4 h s) e (wA α) l.length (l.flatMap qx) d cap h2) :
  hb.le h2∧h2 b=h b∧RowF e hb h2 b (Sl.mk d cap l)∧∀ {β:Type} [Enc β] {m:TypeId} {t:Sl β},RowF m hb h b t→Apart s t→RowF m hb h2 b t∧Apart (Sl.mk d cap l) t:=by
 obtain ⟨y,n⟩:=R
 obtain ⟨z,r,p⟩:=zJC y P
 have fr:∀ g,d=some ⟨g,0,none⟩→hb g=none∧g ≠ b:=fun g c=>by
  rcases r g c with x|x
  ·refine ⟨?_,fun e=>q (by rw [← e];exact x)⟩
   cases D:hb g with
   | none=>rfl
   | some o=>rw [j g o D] at x;cases x
  ·exact n g x
 refine ⟨fun k o f=>?_,p b (fun g c e=>(fr g c).2 e.symm) (fun g c e=>(n g c).2 e.symm),⟨z,fr⟩,fun {β} _ {m} {t} Rt A=>?_⟩
 ·rw [p k (fun g c e=>by subst e;rw [(fr _ c).1] at f;cases f) (fun g c e=>by subst e;rw [(n _ c).1] at f;cases f)]
  exact j k o f
 ·have u:∀ g,d=some ⟨g,0,none⟩→t.a ≠ some ⟨g,0,none⟩:=fun g c w=>by
   rcases r g c with x|x
   ·exact zJD Rt.1 w x
   ·exact A g x w
  refine ⟨⟨Rt.1.keep fun g c=>p g (fun F i e=>?_) (fun F i e=>?_),Rt.2⟩,u⟩
  ·subst e;exact u _ i c
  ·subst e;exact A _ i c
def plC (x:DHarbour) (L:Sl (Sl DOption)) (wf:Value) (p:Sl DOption) (ch be:Sl Int) (m0 m1:Int) (fo:Bool):List Value:=[.int .i64 x.forecast.tide.mean,x.forecast.tide.parts.val,x.forecast.surges.val,x.chart.points.val,x.chart.segments.val,x.fleet.val,.int .i64 x.regime.gap,.bool x.regime.noMeet,.int .i64 x.crew.tugs,.int .i64 x.crew.pilots,.int .i64 x.crew.rest,x.crew.moves.val,L.val,wf,p.val,ch.val,be.val,.int .i64 m0,.int .i64 m1,.bool fo]
structure PV (hb h:Hp) (b:Nat) (x:DHarbour) (L:Sl (Sl DOption)) (wf:Value) (p:Sl DOption) (ch be:Sl Int) (m0 m1:Int) (fo:Bool):Prop where
 le:hb.le h
 ox:jD hb x
 oL:L.Ok hb
 nb:hb b=none
 bx:h b=some (.cells (plC x L wf p ch be m0 m1 fo).toArray 262 (0,0))
 rp:RowF 84 hb h b p
 op:∀ y ∈ p.l,jD hb y
 rc:RowF 3 hb h b ch
 rb:RowF 3 hb h b be
 d1:Apart p ch
 d2:Apart p be
 d3:Apart ch be
section
variable {hb h h2:Hp} {b:Nat} {x:DHarbour} {L:Sl (Sl DOption)} {wf:Value} {p p':Sl DOption} {ch be ch' be':Sl Int} {m0 m1 m0' m1':Int} {fo fo':Bool}
theorem zMX (H:h b=some (.cells (plC x L wf p ch be m0 m1 fo).toArray 262 (0,0))):h.lds (some ⟨b,0,none⟩) 12=some [.int .i64 x.forecast.tide.mean,x.forecast.tide.parts.val,x.forecast.surges.val,x.chart.points.val,x.chart.segments.val,x.fleet.val,.int .i64 x.regime.gap,.bool x.regime.noMeet,.int .i64 x.crew.tugs,.int .i64 x.crew.pilots,.int .i64 x.crew.rest,x.crew.moves.val]∧h.lds (some ⟨b,12,none⟩) 1=some [L.val]∧h.lds (some ⟨b,13,none⟩) 1=some [wf]∧h.lds (some ⟨b,14,none⟩) 1=some [p.val]∧h.lds (some ⟨b,15,none⟩) 1=some [ch.val]∧h.lds (some ⟨b,16,none⟩) 1=some [be.val]∧h.lds (some ⟨b,17,none⟩) 2=some [.int .i64 m0,.int .i64 m1]∧h.lds (some ⟨b,19,none⟩) 1=some [.bool fo]:=by
 unfold plC at H
 refine ⟨?_,?_,?_,?_,?_,?_,?_,?_⟩ <;> exact zzg H rfl (by simp)
theorem PV.nbx (H:PV hb h b x L wf p ch be m0 m1 fo):h b ≠ none:=by rw [H.bx];exact fun e=>by cases e
theorem PV.pok (H:PV hb h b x L wf p ch be m0 m1 fo):p.Ok h:=H.rp.1.ok (by decide) fun y a=>jL H.le (H.op y a)
theorem PV.cok {a:List Nat} (H:PV hb h b x L wf p ch be m0 m1 fo) (d:ch.l=zs a) (e:∀ y ∈ a,y < 100):ch.Ok h:=H.rc.1.ok (by decide) fun y c=>by
 rw [d] at c
 obtain ⟨k,f,rfl⟩:=List.mem_map.1 c
 have:=e k f
 show I64 _;unfold I64;omega
theorem PV.grow (H:PV hb h b x L wf p ch be m0 m1 fo) (a:h.le h2):PV hb h2 b x L wf p ch be m0 m1 fo :=
 ⟨jB H.le a,H.ox,H.oL,H.nb,a _ _ H.bx,H.rp.grow a,H.op,H.rc.grow a,H.rb.grow a,H.d1,H.d2,H.d3⟩
theorem PV.mk2 (H:PV hb h b x L wf p ch be m0 m1 fo) (c:hb.le h2) (d:RowF 84 hb h2 b p') (op:∀ y ∈ p'.l,jD hb y) (f:RowF 3 hb h2 b ch') (g:RowF 3 hb h2 b be') (i:Apart p' ch') (j:Apart p' be') (m:Apart ch' be') :
  PV hb (h2.ins b (.cells (plC x L wf p' ch' be' m0' m1' fo').toArray 262 (0,0))) b x L wf p' ch' be' m0' m1' fo':=by
 refine ⟨fun k o a=>?_,H.ox,H.oL,H.nb,qD,d.ins,op,f.ins,g.ins,i,j,m⟩
 rw [JJ (fun e=>by subst e;rw [H.nb] at a;cases a)]
 exact c k o a
end
theorem zMY {x:Cx} {st:St} {d:Hp→Prop} {t:TypeId} {b off:Nat} {u:Value} {xs xs':List Value} {e:TypeId} (g:hasT x.P t=true) (i:szT x.P t=1) (j:SV.cells (.c (.v u))=[.v u]) (k:u.oneCell'=true) (hb:st.h b=some (.cells xs.toArray e (0,0))) (a:x.h0 b=none∨x.W0.own b) (f:off+1≤xs.length) (l:spl off [u] xs=xs')
  (m:d (st.h.ins b (.cells xs'.toArray e (0,0)))):zlN x st t (.c (.v (.pointer (some ⟨b,off,none⟩)))) (.c (.v u)) d:=by
 refine zl5 g i j k hb a (by simpa using f) ?_
 rw [jE,l]
 exact m
theorem zMZ {x:Cx} {st:St} {a:Hp→Prop} {t:TypeId} {b off:Nat} {u w:Value} {xs xs':List Value} {e:TypeId} (j:hasT x.P t=true) (f:szT x.P t=2) (k:u.oneCell'=true) (h2:w.oneCell'=true) (hb:st.h b=some (.cells xs.toArray e (0,0))) (d:x.h0 b=none∨x.W0.own b) (i:off+2≤xs.length) (l:spl off [u,w] xs=xs')
  (m:a (st.h.ins b (.cells xs'.toArray e (0,0)))):zlN x st t (.c (.v (.pointer (some ⟨b,off,none⟩)))) (.g [.v u,.v w]) a:=by
 unfold zlN
 refine ⟨j,rfl,?_,?_,b,off,xs.toArray,e,rfl,hb,d,by rw [f];simpa using i,?_⟩
 ·show (([SC.v u,SC.v w]:List SC).all fun c=>c.val.oneCell')=true
  simp only [List.all_cons,List.all_nil,wJ,SC.val,k,h2]
 ·rw [f];rfl
 ·show a (st.h.ins b (.cells (zbG off [u,w] xs.toArray.toList).toArray e (0,0)))
  rw [jE,show zbG off [u,w] xs=xs' from l]
  exact m
theorem zM0 (a b c d:Int) (h:Hp):Ct jV 264 [.agg #[.int .i64 a,.int .i64 b],.agg #[.int .i64 c,.int .i64 d]] h fun v h'=>v=.bool (zMT a b c d)∧h'=h:=by
 have e:Int.toNat (1:Int)=1:=rfl
 have f:(0:Int) < ((2:Nat):Int):=by decide
 have g:(1:Int) < ((2:Nat):Int):=by decide
 have i:(0:Int)≤1:=by decide
 refine zdn (fun A W=>by simp) Tryz.func264 rfl rfl (by simp) fun W0=>?_
 repeat' first|refine Wa ?_|(simp only [go_sem,jq,jj,jy,jv,jk,jx,f,g,i,je,e,jA,JQ,jb,wy,qF,Jg,JA,JB,JC];try rfl)|refine Wb ?_|fail
def LL (L:Sl (Sl DOption)):List (List POption):=L.l.map fun l=>l.l.map (jK (α:=DOption))
theorem zM1 {L:Sl (Sl DOption)} {i:Nat} (a:i < L.l.length):(LL L).drop i=L.l[i].l.map (jK (α:=DOption)) :: (LL L).drop (i+1):=by
 have h:i < (LL L).length:=by rw [LL,jH];exact a
 rw [JX h]
 simp [LL]
def zM2 (x:PHarbour) (w:List POption→Int) (L:List (List POption)) (l p:List POption) (ch:List Nat) (st:BSt) (k:Nat):BSt:=if zK7 x p (l.getD k zGU)=true then srW x w L (p ++ [l.getD k zGU]) (ch ++ [k]) st else st
set_option maxRecDepth 30000 in
theorem zM3 (hb:Hp) (b:Nat) (x:DHarbour) (L:Sl (Sl DOption)) (F:Nat) (cs:List Value) (w:List POption→Int) (hR:zBC x.regime=true) (dq:L.l.length≤6) (cr:∀ l ∈ L.l,l.l.length≤90) (ct:∀ l ∈ L.l,∀ y ∈ l.l,zKs (jK x.chart) x.fleet.l y.pas.l∧y.pas.l.length≤1000)
  (hw:∀ (s:Sl DOption) (h:Hp),s.Ok h→hb.le h→s.l.length≤6→Ct jV F ([s.val] ++ cs) h fun v h'=>v=.agg #[.int .i64 (w (s.l.map jK)),.int .i64 0]∧h'=h) :
  ∀ (f:Nat) (pn:List Nat) (p:Sl DOption) (ch be:Sl Int) (m0 m1:Int) (fo:Bool) (st:BSt) (h:Hp),PV hb h b x L (.func (.func F) #[] cs.toArray) p ch be m0 m1 fo→BS st be m0 m1 fo→p.l.length+f=L.l.length→ch.l=zs pn→pn.length=p.l.length→(∀ y ∈ p.l,zKs (jK x.chart) x.fleet.l y.pas.l∧y.pas.l.length≤1000)→(∀ y ∈ pn,y < 100) →
   Cw jV 213 [.pointer (some ⟨b,0,none⟩)] h (fun k=>hb k=none∧h k ≠ none) fun v h'=>∃ (p':Sl DOption) (cd ce:Sl Int) (cf cg:Int) (ci:Bool),PV hb h' b x L (.func (.func F) #[] cs.toArray) p' cd ce cf cg ci∧p'.l=p.l∧cd.l=ch.l∧BS (srW (jK x) w ((LL L).drop p.l.length) (p.l.map jK) pn st) ce cf cg ci:=by
 intro f
 induction f using JP with
 | _ f ih =>
 intro pn p ch be m0 m1 fo st h H bz di an bq b7 cj
 obtain ⟨u,a,d,j,m,n,r,t⟩:=zMX H.bx
 have cm:=H.pok
 have br:=H.oL.mono H.le
 have dr:=br.max
 refine zlK (fun A W=>by simp) Tryz.func213 rfl rfl (by simp)  (fun k hk=>hk.2) fun W0 hW=>?_
 have own:∀ k,hb k=none→h k=none∨W0.own k:=fun k hk=>by
  cases hh:h k with
  | none=>exact .inl rfl
  | some o=>exact .inr (hW k ⟨hk,by rw [hh];simp⟩)
 refine zc3 ?_
 refine zFS (ι:=Unit) (fun _=>⟨[(0,true,.c (.v (.pointer (some ⟨b,0,none⟩)))),(2,true,.c (.p 0 0))],[(0,.box 188 [.v (.int .i64 (w (p.l.map jK))),.v (.int .i64 0)])],h,1⟩) (fun _=>True) ?_ ?_
 ·refine zz5 rfl ?_
  refine U_t [0,4,1,5,2,6,3,7] rfl ?_
  simp only [go_sem,jq,jj,jy,jv,jk,jx,u,a,d,j,m,n,r,t,true_or,JA,JB,Jg]
  refine U_m 8 [9] ⟨?_,?_,trivial⟩
  ·refine U_b 8 0 [] rfl rfl ?_
   simp only [go_sem,jq,jj,jy,jv,jk,jx,u,a,d,j,m,n,r,t,true_or,JA,JB,Jg]
   refine zhF (fun _=>hw p h cm H.le (by omega)) ?_
   simp only [go_sem,jq,jj,jy,jv,jk,jx,u,a,d,j,m,n,r,t,true_or,JA,JB,Jg]
   refine U_1 9 0 [] rfl rfl ?_
   simp only [go_sem,jq,jj,jy,jv,jk,jx,u,a,d,j,m,n,r,t,true_or,JA,JB,Jg]
   refine U_1 10 0 [] rfl rfl ?_
   simp only [go_sem,jq,jj,jy,jv,jk,jx,u,a,d,j,m,n,r,t,true_or,JA,JB,Jg]
   refine U_d ?_
   refine ⟨(),[0],?_⟩
   refine Evs ?_
   exact Gk
  ·refine U_b 9 0 [7,3,6,2,5,1] rfl rfl ?_
   simp only [go_sem,jq,jj,jy,jv,jk,jx,u,a,d,j,m,n,r,t,true_or,JA,JB,Jg]
   refine U_1 8 0 [] rfl rfl ?_
   simp only [go_sem,jq,jj,jy,jv,jk,jx,u,a,d,j,m,n,r,t,true_or,JA,JB,Jg]
   refine zhF (fun _=>hw p h cm H.le (by omega)) ?_
   simp only [go_sem,jq,jj,jy,jv,jk,jx,u,a,d,j,m,n,r,t,true_or,JA,JB,Jg]
   refine U_1 10 0 [] rfl rfl ?_
   simp only [go_sem,jq,jj,jy,jv,jk,jx,u,a,d,j,m,n,r,t,true_or,JA,JB,Jg]
   refine U_d ?_
   refine ⟨(),[0],?_⟩
   refine Evs ?_
   exact Gk
 intro _ _
 refine Wk ?_
 refine zz5 rfl ?_
 refine U_t [0,1,2,3,4,5,6,7,8,9] rfl ?_
 simp only [go_sem,jq,jj,jy,jv,jk,jx,u,a,d,j,m,n,r,t,true_or,JA,JB,Jg]
 refine U_1 10 0 [] rfl rfl ?_
 simp only [go_sem,jq,jj,jy,jv,jk,jx,u,a,d,j,m,n,r,t,true_or,JA,JB,Jg]
 refine zhF (fun _=>zM0 _ _ _ _ _) ?_
 simp only [go_sem,jq,jj,jy,jv,jk,jx,u,a,d,j,m,n,r,t,true_or,JA,JB,Jg]
 refine U_t [11,12] rfl ?_
 simp only [go_sem,jq,jj,jy,jv,jk,jx,u,a,d,j,m,n,r,t,true_or,JA,JB,Jg]
 refine U_d ?_
 have b8:=zMU (c:=w (p.l.map jK)) bz
 refine zc9 rfl (fun N=>?_) (fun N=>?_)
 ·rw [b8] at N
  refine Wk ?_
  refine ⟨p,ch,be,m0,m1,fo,H,rfl,rfl,?_⟩
  have hs:srW (jK x) w ((LL L).drop p.l.length) (p.l.map jK) pn st=st:=by
   cases (LL L).drop p.l.length with
   | nil=>rw [srW,if_pos N]
   | cons l M=>rw [srW,if_pos N]
  rw [hs]
  exact bz
 rw [b8] at N
 repeat' first|refine Wa ?_|(simp only [go_sem,jq,jj,jy,jv,jk,jx,u,a,d,j,m,n,r,t,true_or,JA,JB,Jg];try rfl)|refine Wb ?_|fail
 refine zc9 rfl (fun hx=>?_) (fun hx=>?_)
 ·have hx:p.l.length=L.l.length:=by have:=eq_of_beq hx;omega
  have hs:srW (jK x) w ((LL L).drop p.l.length) (p.l.map jK) pn st=some (pn,w (p.l.map jK)):=by
   rw [Jf (by rw [LL,jH];omega),srW,if_neg (by rw [N];exact qa)]
  rw [hs]
  refine Wk ?_
  refine zz5 rfl ?_
  refine U_t [0,1,2,3,8,4,5,6] rfl ?_
  simp only [go_sem,jq,jj,jy,jv,jk,jx,u,a,d,j,m,n,r,t,true_or,JA,JB,Jg]
  refine U_1 7 0 [8] rfl rfl ?_
  simp only [go_sem,jq,jj,jy,jv,jk,jx,u,a,d,j,m,n,r,t,true_or,JA,JB,Jg]
  refine zkr (zF8 ch _ (H.cok an cj) (by rw [an,zJd];omega)) rfl ?_
  rintro v h1 cu ⟨q,rfl,cw,Rq,fq⟩
  have z:=H.grow cu
  obtain ⟨u,a,d,j,m,n,r,t⟩:=zMX z.bx
  have rq:RowF 3 hb h1 b q:=⟨Rq,fun g Z=>⟨znR H.le (fq g Z),fun e=>H.nbx (by rw [← e];exact fq g Z)⟩⟩
  have cy:Apart p q:=fun g Z N=>zJD H.rp.1 Z (fq g N)
  have cz:Apart ch q:=fun g Z N=>zJD H.rc.1 Z (fq g N)
  simp only [go_sem,jq,jj,jy,jv,jk,jx,u,a,d,j,m,n,r,t,true_or,JA,JB,Jg]
  refine U_t [9,10] rfl ?_
  simp only [go_sem,jq,jj,jy,jv,jk,jx,u,a,d,j,m,n,r,t,true_or,JA,JB,Jg]
  refine U_1 11 1 [8] rfl rfl ?_
  simp only [go_sem,jq,jj,jy,jv,jk,jx,u,a,d,j,m,n,r,t,true_or,JA,JB,Jg]
  refine zMY (xs':=plC x L (.func (.func F) #[] cs.toArray) p ch q m0 m1 fo) (by simp only [go_sem]) (by simp only [go_sem]) rfl rfl z.bx (own b H.nb) (by simp [plC]) rfl ?_
  refine Evs ?_
  refine U_t [12,13] rfl ?_
  simp only [go_sem,jq,jj,jy,jv,jk,jx,u,a,d,j,m,n,r,t,true_or,JA,JB,Jg]
  refine U_1 14 1 [] rfl rfl ?_
  simp only [go_sem,jq,jj,jy,jv,jk,jx,u,a,d,j,m,n,r,t,true_or,JA,JB,Jg]
  refine zMZ (xs':=plC x L (.func (.func F) #[] cs.toArray) p ch q (w (p.l.map jK)) 0 fo) (by simp only [go_sem]) (by simp only [go_sem]) rfl rfl qD (own b H.nb) (by simp [plC]) rfl ?_
  try simp only [go_sem,jq,jj,jy,jv,jk,jx]
  refine U_t [15,16] rfl ?_
  simp only [go_sem,jq,jj,jy,jv,jk,jx,u,a,d,j,m,n,r,t,true_or,JA,JB,Jg]
  refine U_1 17 1 [] rfl rfl ?_
  simp only [go_sem,jq,jj,jy,jv,jk,jx,u,a,d,j,m,n,r,t,true_or,JA,JB,Jg]
  refine zMY (xs':=plC x L (.func (.func F) #[] cs.toArray) p ch q (w (p.l.map jK)) 0 true) (by simp only [go_sem]) (by simp only [go_sem]) rfl rfl qD (own b H.nb) (by simp [plC]) rfl ?_
  try simp only [go_sem,jq,jj,jy,jv,jk,jx]
  rw [qf,qf]
  refine U_d ?_
  refine Wk ?_
  exact ⟨p,ch,q,_,0,true,PV.mk2 z z.le z.rp z.op z.rc rq z.d1 cy cz,rfl,rfl,rfl,by rw [cw,an],rfl,rfl⟩
 have hx:¬ (p.l.length=L.l.length):=by have:=ne_of_beq_false hx;omega
 have hi:p.l.length < L.l.length:=by omega
 have da:(p.l.length:Int) < L.l.length:=by omega
 have db:=br.el hi
 have dt:=Sl.Ok.max db
 have b9:L.l[p.l.length] ∈ L.l:=qd hi
 refine zc5 ?_
 refine Evs ?_
 repeat' first|refine Wa ?_|(simp only [go_sem,jq,jj,jy,jv,jk,jx,u,a,d,j,m,n,r,t,true_or,JA,JB,Jg,zkQ br hi,br.some hi,hi,da,jW,jY,JC];try rfl)|refine Wb ?_|fail
 refine zFU (ι:=Nat × Hp × Sl DOption × Sl Int × Sl Int × Int × Int × Bool) (fun i=>⟨[(0,true,.c (.v (.pointer (some ⟨b,0,none⟩)))),(3,true,.c (.v (.int .i64 p.l.length))),(61,true,.c (.v L.l[p.l.length].val)),(62,true,.c (.v (.int .i64 L.l[p.l.length].l.length))),(63,true,.c (.v (.int .i64 i.1)))],[],i.2.1,0⟩)
  (fun i=>i.1≤L.l[p.l.length].l.length∧PV hb i.2.1 b x L (.func (.func F) #[] cs.toArray) i.2.2.1 i.2.2.2.1 i.2.2.2.2.1 i.2.2.2.2.2.1 i.2.2.2.2.2.2.1 i.2.2.2.2.2.2.2∧i.2.2.1.l=p.l∧i.2.2.2.1.l=ch.l∧BS ((wg i.1).foldl (zM2 (jK x) w ((LL L).drop (p.l.length+1)) (L.l[p.l.length].l.map jK) (p.l.map jK) pn) st) i.2.2.2.2.1 i.2.2.2.2.2.1 i.2.2.2.2.2.2.1 i.2.2.2.2.2.2.2) (fun i=>L.l[p.l.length].l.length - i.1) (0,h,p,ch,be,m0,m1,fo) ⟨jC _,H,rfl,rfl,bz⟩ [] ?_ ?_
 ·refine Evs ?_
  exact Gk
 rintro ⟨k,hk,J,O,al,n0,n1,am⟩ ⟨dc,z,R,ao,bt⟩
 simp only at dc z R ao bt
 obtain ⟨u,a,d,j,m,n,r,t⟩:=zMX z.bx
 have aw:J.l.length=p.l.length:=by rw [R]
 have cp:O.l.length=p.l.length:=by rw [ao,an,zJd,bq]
 refine Wk ?_
 refine zc9 rfl (fun hd=>?_) (fun hd=>?_)
 ·have X:=zjH hd
  have de:jD hk x:=jL z.le z.ox
  have co:L.l[p.l.length].Ok hk:=Sl.Ok.el (z.oL.mono z.le) hi
  obtain ⟨o,ho⟩:∃ o,L.l[p.l.length].l[k]=o:=⟨_,rfl⟩
  have ax:jD hb o:=by rw [← ho];exact Sl.Ok.el (Sl.Ok.el z.oL hi) X
  have df:jD hk o:=jL z.le ax
  have ca:=ct _ b9 o (by rw [← ho];exact qd X)
  have dg:(L.l[p.l.length].l.map (jK (α:=DOption))).getD k zGU=jK o:=by simp [ja,X,ho]
  have dh:∀ q ∈ J.l ++ [o],zKs (jK x.chart) x.fleet.l q.pas.l:=fun q N=>by
   rcases List.mem_append.1 N with N|N
   ·exact (b7 q (by rw [← R];exact N)).1
   ·rw [List.mem_singleton.1 N];exact ca.1
  have cq:((J.l ++ [o]).flatMap (·.pas.l)).length≤1048576:=by
   refine wK (zEE (B:=1000) fun q N=>?_) (by rw [jP,jg];omega)
   rcases List.mem_append.1 N with N|N
   ·exact (b7 q (by rw [← R];exact N)).2
   ·rw [List.mem_singleton.1 N];exact ca.2
  have au:∀ bu,zM2 (jK x) w ((LL L).drop (p.l.length+1)) (L.l[p.l.length].l.map jK) (p.l.map jK) pn bu k=if zK7 (jK x) (p.l.map jK) (jK o)=true then srW (jK x) w ((LL L).drop (p.l.length+1)) (p.l.map jK ++ [jK o]) (pn ++ [k]) bu else bu:=fun bu=>by rw [zM2,dg]
  have dj:=cr _ b9
  repeat' first|refine Wa ?_|(simp only [go_sem,jq,jj,jy,jv,jk,jx,zkZ co X,co.some X,X,ho,jW];try rfl)|refine Wb ?_|fail
  refine zz5 rfl ?_
  refine U_t [0,4,8,1,5,2,6,3,7] rfl ?_
  simp only [go_sem,jq,jj,jy,jv,jk,jx,u,a,d,j,m,n,r,t,true_or,JA,JB,Jg]
  refine U_1 9 0 [] rfl rfl ?_
  simp only [go_sem,jq,jj,jy,jv,jk,jx,u,a,d,j,m,n,r,t,true_or,JA,JB,Jg]
  refine zhF (fun _=>zMP x J o _ de z.pok df hR dh cq (by omega)) ?_
  simp only [go_sem,jq,jj,jy,jv,jk,jx,u,a,d,j,m,n,r,t,true_or,JA,JB,Jg]
  refine U_t [10] rfl ?_
  simp only [go_sem,jq,jj,jy,jv,jk,jx,u,a,d,j,m,n,r,t,true_or,JA,JB,Jg]
  refine U_d ?_
  rw [R]
  refine zc9 rfl (fun N=>?_) (fun N=>?_)
  ·rw [jd] at N
   refine Wk ?_
   refine ⟨(k+1,hk,J,O,al,n0,n1,am),[],⟨X,z,R,ao,?_⟩,by simp only;omega,?_⟩
   ·simp only
    rw [yg,yp,wH,uY,au,if_neg (by rw [N];exact qa)]
    exact bt
   refine Evs ?_
   exact Gi (zjA X (by omega))
  rw [jf] at N
  refine zc5 ?_
  refine Evs ?_
  refine zc3 ?_
  refine zFS (ι:=Hp × Sl DOption × Sl Int) (fun i=>⟨[(0,true,.c (.v (.pointer (some ⟨b,0,none⟩)))),(3,true,.c (.v (.int .i64 p.l.length))),(61,true,.c (.v L.l[p.l.length].val)),(62,true,.c (.v (.int .i64 L.l[p.l.length].l.length))),(63,true,.c (.v (.int .i64 k)))],[],i.1,0⟩) (fun i=>PV hb i.1 b x L (.func (.func F) #[] cs.toArray) i.2.1 i.2.2 al n0 n1 am∧i.2.1.l=J.l ++ [o]∧i.2.2.l=O.l ++ [(k:Int)]) ?_ ?_
  ·refine zz5 rfl ?_
   refine U_t [0,1,2,6,9,13,3,10,4,11,5,12] rfl ?_
   simp only [go_sem,jq,jj,jy,jv,jk,jx,u,a,d,j,m,n,r,t,true_or,JA,JB,Jg]
   refine U_m 7 [14] ⟨?_,?_,trivial⟩
   ·refine U_b 7 0 [12,5,11,4,10,3] rfl rfl ?_
    simp only [go_sem,jq,jj,jy,jv,jk,jx,u,a,d,j,m,n,r,t,true_or,JA,JB,Jg]
    refine U_m 8 [14] ⟨?_,?_,trivial⟩
    ·refine U_b 8 3 [12,11,10] rfl rfl ?_
     simp only [go_sem,jq,jj,jy,jv,jk,jx,u,a,d,j,m,n,r,t,true_or,JA,JB,Jg]
     refine zD6 (s:=J) rfl z.rp.1 (fun g Z=>own g (z.rp.2 g Z).1) ?_
     refine Evs ?_
     refine ⟨rfl,by simp only [maxLen];omega,by omega,fun ad cap h2 P=>?_⟩
     have P':Pub (zD4 hk J) 84 (wA DOption) (J.l ++ [o]).length ((J.l ++ [o]).flatMap qx) ad cap h2:=by
      rw [jP,jF];exact P
     obtain ⟨az,ap,a7,ag⟩:=zMW z.le z.nbx z.rp P'
     obtain ⟨ah,a8⟩:=ag z.rc z.d1
     obtain ⟨bd,bf⟩:=ag z.rb z.d2
     have bg:h2 b ≠ none:=by rw [ap];exact z.nbx
     have ai:=z.bx
     rw [← ap] at ai
     obtain ⟨u,a,d,j,m,n,r,t⟩:=zMX ai
     rw [show Value.slice ad (J.l.length+1) cap=(Sl.mk ad cap (J.l ++ [o])).val from by simp only [Sl.val,jP,jg]]
     try simp only [go_sem,jq,jj,jy,jv,jk,jx,u,a,d,j,m,n,r,t,true_or,JA,JB,Jg]
     refine U_1 14 0 [12,11,10] rfl rfl ?_
     simp only [go_sem,jq,jj,jy,jv,jk,jx,u,a,d,j,m,n,r,t,true_or,JA,JB,Jg]
     refine U_1 15 3 [] rfl rfl ?_
     simp only [go_sem,jq,jj,jy,jv,jk,jx,u,a,d,j,m,n,r,t,true_or,JA,JB,Jg]
     refine zD6 (s:=O) rfl ah.1 (fun g Z=>own g (ah.2 g Z).1) ?_
     refine Evs ?_
     refine ⟨rfl,by simp only [maxLen];omega,by omega,fun Q G h3 P2=>?_⟩
     have bh:Pub (zD4 h2 O) 3 (wA Int) (O.l ++ [(k:Int)]).length ((O.l ++ [(k:Int)]).flatMap qx) Q G h3:=by
      rw [jP,jF];exact P2
     obtain ⟨bi,bj,bk,aj⟩:=zMW az bg ah bh
     obtain ⟨bl,bm⟩:=aj a7 a8.symm
     obtain ⟨bn,bp⟩:=aj bd z.d3
     have ak:=ai
     rw [← bj] at ak
     obtain ⟨u,a,d,j,m,n,r,t⟩:=zMX ak
     rw [show Value.slice Q (O.l.length+1) G=(Sl.mk Q G (O.l ++ [(k:Int)])).val from by simp only [Sl.val,jP,jg]]
     try simp only [go_sem,jq,jj,jy,jv,jk,jx,u,a,d,j,m,n,r,t,true_or,JA,JB,Jg]
     refine U_t [16,17] rfl ?_
     simp only [go_sem,jq,jj,jy,jv,jk,jx,u,a,d,j,m,n,r,t,true_or,JA,JB,Jg]
     refine U_1 18 1 [] rfl rfl ?_
     simp only [go_sem,jq,jj,jy,jv,jk,jx,u,a,d,j,m,n,r,t,true_or,JA,JB,Jg]
     refine zMY (xs':=plC x L (.func (.func F) #[] cs.toArray) (Sl.mk ad cap (J.l ++ [o])) O al n0 n1 am) (by simp only [go_sem]) (by simp only [go_sem]) rfl rfl ak (own b H.nb) (by simp [plC]) rfl ?_
     refine Evs ?_
     refine U_t [19,20] rfl ?_
     simp only [go_sem,jq,jj,jy,jv,jk,jx,u,a,d,j,m,n,r,t,true_or,JA,JB,Jg]
     refine U_1 21 1 [] rfl rfl ?_
     simp only [go_sem,jq,jj,jy,jv,jk,jx,u,a,d,j,m,n,r,t,true_or,JA,JB,Jg]
     refine zMY (xs':=plC x L (.func (.func F) #[] cs.toArray) (Sl.mk ad cap (J.l ++ [o])) (Sl.mk Q G (O.l ++ [(k:Int)])) al n0 n1 am) (by simp only [go_sem]) (by simp only [go_sem]) rfl rfl qD (own b H.nb) (by simp [plC]) rfl ?_
     refine Evs ?_
     rw [qf]
     refine U_d ?_
     refine ⟨(_,Sl.mk ad cap (J.l ++ [o]),Sl.mk Q G (O.l ++ [(k:Int)])),[],⟨PV.mk2 z bi bl (fun y D=>?_) bk bn bm.symm bf bp,rfl,rfl⟩,?_⟩
     ·rcases List.mem_append.1 D with D|D
      ·exact z.op y D
      ·rw [List.mem_singleton.1 D];exact ax
     refine Evs ?_
     exact Gk
    ·refine U_b 14 0 [12,5,11,4,10,3] rfl rfl ?_
     simp only [go_sem,jq,jj,jy,jv,jk,jx,u,a,d,j,m,n,r,t,true_or,JA,JB,Jg]
     refine U_1 8 3 [12,11,10] rfl rfl ?_
     simp only [go_sem,jq,jj,jy,jv,jk,jx,u,a,d,j,m,n,r,t,true_or,JA,JB,Jg]
     refine zD6 (s:=J) rfl z.rp.1 (fun g Z=>own g (z.rp.2 g Z).1) ?_
     refine Evs ?_
     refine ⟨rfl,by simp only [maxLen];omega,by omega,fun ad cap h2 P=>?_⟩
     have P':Pub (zD4 hk J) 84 (wA DOption) (J.l ++ [o]).length ((J.l ++ [o]).flatMap qx) ad cap h2:=by
      rw [jP,jF];exact P
     obtain ⟨az,ap,a7,ag⟩:=zMW z.le z.nbx z.rp P'
     obtain ⟨ah,a8⟩:=ag z.rc z.d1
     obtain ⟨bd,bf⟩:=ag z.rb z.d2
     have bg:h2 b ≠ none:=by rw [ap];exact z.nbx
     have ai:=z.bx
     rw [← ap] at ai
     obtain ⟨u,a,d,j,m,n,r,t⟩:=zMX ai
     rw [show Value.slice ad (J.l.length+1) cap=(Sl.mk ad cap (J.l ++ [o])).val from by simp only [Sl.val,jP,jg]]
     try simp only [go_sem,jq,jj,jy,jv,jk,jx,u,a,d,j,m,n,r,t,true_or,JA,JB,Jg]
     refine U_1 15 3 [] rfl rfl ?_
     simp only [go_sem,jq,jj,jy,jv,jk,jx,u,a,d,j,m,n,r,t,true_or,JA,JB,Jg]
     refine zD6 (s:=O) rfl ah.1 (fun g Z=>own g (ah.2 g Z).1) ?_
     refine Evs ?_
     refine ⟨rfl,by simp only [maxLen];omega,by omega,fun Q G h3 P2=>?_⟩
     have bh:Pub (zD4 h2 O) 3 (wA Int) (O.l ++ [(k:Int)]).length ((O.l ++ [(k:Int)]).flatMap qx) Q G h3:=by
      rw [jP,jF];exact P2
     obtain ⟨bi,bj,bk,aj⟩:=zMW az bg ah bh
     obtain ⟨bl,bm⟩:=aj a7 a8.symm
     obtain ⟨bn,bp⟩:=aj bd z.d3
     have ak:=ai
     rw [← bj] at ak
     obtain ⟨u,a,d,j,m,n,r,t⟩:=zMX ak
     rw [show Value.slice Q (O.l.length+1) G=(Sl.mk Q G (O.l ++ [(k:Int)])).val from by simp only [Sl.val,jP,jg]]
     try simp only [go_sem,jq,jj,jy,jv,jk,jx,u,a,d,j,m,n,r,t,true_or,JA,JB,Jg]
     refine U_t [16,17] rfl ?_
     simp only [go_sem,jq,jj,jy,jv,jk,jx,u,a,d,j,m,n,r,t,true_or,JA,JB,Jg]
     refine U_1 18 1 [] rfl rfl ?_
     simp only [go_sem,jq,jj,jy,jv,jk,jx,u,a,d,j,m,n,r,t,true_or,JA,JB,Jg]
     refine zMY (xs':=plC x L (.func (.func F) #[] cs.toArray) (Sl.mk ad cap (J.l ++ [o])) O al n0 n1 am) (by simp only [go_sem]) (by simp only [go_sem]) rfl rfl ak (own b H.nb) (by simp [plC]) rfl ?_
     refine Evs ?_
     refine U_t [19,20] rfl ?_
     simp only [go_sem,jq,jj,jy,jv,jk,jx,u,a,d,j,m,n,r,t,true_or,JA,JB,Jg]
     refine U_1 21 1 [] rfl rfl ?_
     simp only [go_sem,jq,jj,jy,jv,jk,jx,u,a,d,j,m,n,r,t,true_or,JA,JB,Jg]
     refine zMY (xs':=plC x L (.func (.func F) #[] cs.toArray) (Sl.mk ad cap (J.l ++ [o])) (Sl.mk Q G (O.l ++ [(k:Int)])) al n0 n1 am) (by simp only [go_sem]) (by simp only [go_sem]) rfl rfl qD (own b H.nb) (by simp [plC]) rfl ?_
     refine Evs ?_
     rw [qf]
     refine U_d ?_
     refine ⟨(_,Sl.mk ad cap (J.l ++ [o]),Sl.mk Q G (O.l ++ [(k:Int)])),[],⟨PV.mk2 z bi bl (fun y D=>?_) bk bn bm.symm bf bp,rfl,rfl⟩,?_⟩
     ·rcases List.mem_append.1 D with D|D
      ·exact z.op y D
      ·rw [List.mem_singleton.1 D];exact ax
     refine Evs ?_
     exact Gk
   ·refine U_b 14 0 [12,5,11,4,10,3,6] rfl rfl ?_
    simp only [go_sem,jq,jj,jy,jv,jk,jx,u,a,d,j,m,n,r,t,true_or,JA,JB,Jg]
    refine U_1 7 0 [12,5,11,4,10,3] rfl rfl ?_
    simp only [go_sem,jq,jj,jy,jv,jk,jx,u,a,d,j,m,n,r,t,true_or,JA,JB,Jg]
    refine U_1 8 3 [12,11,10] rfl rfl ?_
    simp only [go_sem,jq,jj,jy,jv,jk,jx,u,a,d,j,m,n,r,t,true_or,JA,JB,Jg]
    refine zD6 (s:=J) rfl z.rp.1 (fun g Z=>own g (z.rp.2 g Z).1) ?_
    refine Evs ?_
    refine ⟨rfl,by simp only [maxLen];omega,by omega,fun ad cap h2 P=>?_⟩
    have P':Pub (zD4 hk J) 84 (wA DOption) (J.l ++ [o]).length ((J.l ++ [o]).flatMap qx) ad cap h2:=by
     rw [jP,jF];exact P
    obtain ⟨az,ap,a7,ag⟩:=zMW z.le z.nbx z.rp P'
    obtain ⟨ah,a8⟩:=ag z.rc z.d1
    obtain ⟨bd,bf⟩:=ag z.rb z.d2
    have bg:h2 b ≠ none:=by rw [ap];exact z.nbx
    have ai:=z.bx
    rw [← ap] at ai
    obtain ⟨u,a,d,j,m,n,r,t⟩:=zMX ai
    rw [show Value.slice ad (J.l.length+1) cap=(Sl.mk ad cap (J.l ++ [o])).val from by simp only [Sl.val,jP,jg]]
    try simp only [go_sem,jq,jj,jy,jv,jk,jx,u,a,d,j,m,n,r,t,true_or,JA,JB,Jg]
    refine U_1 15 3 [] rfl rfl ?_
    simp only [go_sem,jq,jj,jy,jv,jk,jx,u,a,d,j,m,n,r,t,true_or,JA,JB,Jg]
    refine zD6 (s:=O) rfl ah.1 (fun g Z=>own g (ah.2 g Z).1) ?_
    refine Evs ?_
    refine ⟨rfl,by simp only [maxLen];omega,by omega,fun Q G h3 P2=>?_⟩
    have bh:Pub (zD4 h2 O) 3 (wA Int) (O.l ++ [(k:Int)]).length ((O.l ++ [(k:Int)]).flatMap qx) Q G h3:=by
     rw [jP,jF];exact P2
    obtain ⟨bi,bj,bk,aj⟩:=zMW az bg ah bh
    obtain ⟨bl,bm⟩:=aj a7 a8.symm
    obtain ⟨bn,bp⟩:=aj bd z.d3
    have ak:=ai
    rw [← bj] at ak
    obtain ⟨u,a,d,j,m,n,r,t⟩:=zMX ak
    rw [show Value.slice Q (O.l.length+1) G=(Sl.mk Q G (O.l ++ [(k:Int)])).val from by simp only [Sl.val,jP,jg]]
    try simp only [go_sem,jq,jj,jy,jv,jk,jx,u,a,d,j,m,n,r,t,true_or,JA,JB,Jg]
    refine U_t [16,17] rfl ?_
    simp only [go_sem,jq,jj,jy,jv,jk,jx,u,a,d,j,m,n,r,t,true_or,JA,JB,Jg]
    refine U_1 18 1 [] rfl rfl ?_
    simp only [go_sem,jq,jj,jy,jv,jk,jx,u,a,d,j,m,n,r,t,true_or,JA,JB,Jg]
    refine zMY (xs':=plC x L (.func (.func F) #[] cs.toArray) (Sl.mk ad cap (J.l ++ [o])) O al n0 n1 am) (by simp only [go_sem]) (by simp only [go_sem]) rfl rfl ak (own b H.nb) (by simp [plC]) rfl ?_
    refine Evs ?_
    refine U_t [19,20] rfl ?_
    simp only [go_sem,jq,jj,jy,jv,jk,jx,u,a,d,j,m,n,r,t,true_or,JA,JB,Jg]
    refine U_1 21 1 [] rfl rfl ?_
    simp only [go_sem,jq,jj,jy,jv,jk,jx,u,a,d,j,m,n,r,t,true_or,JA,JB,Jg]
    refine zMY (xs':=plC x L (.func (.func F) #[] cs.toArray) (Sl.mk ad cap (J.l ++ [o])) (Sl.mk Q G (O.l ++ [(k:Int)])) al n0 n1 am) (by simp only [go_sem]) (by simp only [go_sem]) rfl rfl qD (own b H.nb) (by simp [plC]) rfl ?_
    refine Evs ?_
    rw [qf]
    refine U_d ?_
    refine ⟨(_,Sl.mk ad cap (J.l ++ [o]),Sl.mk Q G (O.l ++ [(k:Int)])),[],⟨PV.mk2 z bi bl (fun y D=>?_) bk bn bm.symm bf bp,rfl,rfl⟩,?_⟩
    ·rcases List.mem_append.1 D with D|D
     ·exact z.op y D
     ·rw [List.mem_singleton.1 D];exact ax
    refine Evs ?_
    exact Gk
  rintro ⟨h5,p5,c5⟩ ⟨H5,Y,av⟩
  simp only at H5 Y av
  first|refine zzr [0,1] rfl ?_|refine zzq [0,1] rfl ?_|(refine zc3 ?_;first|refine zzr [0,1] rfl ?_|refine zzq [0,1] rfl ?_)
  refine Evs ?_
  refine zlL (ih (f - 1) (by omega) (pn ++ [k]) p5 c5 al n0 n1 am _ h5 H5 bt (by rw [Y,jP,jg];omega) (by rw [av,ao,an];simp [zs]) (by rw [Y,jP,jP,jg,jg];omega) (fun y D=>?_) (fun y D=>?_)) rfl (fun g Z=>⟨Z.2,own g Z.1⟩) ?_
  ·rw [Y] at D
   rcases List.mem_append.1 D with D|D
   ·exact b7 y (by rw [← R];exact D)
   ·rw [List.mem_singleton.1 D];exact ca
  ·rcases List.mem_append.1 D with D|D
   ·exact cj y D
   ·rw [List.mem_singleton.1 D];omega
  rintro v h6 kp ⟨p6,c6,aa,ab,ac,ae,K,bv,bw,cb⟩
  obtain ⟨u,a,d,j,m,n,r,t⟩:=zMX K.bx
  have dk:p6.l.length=p.l.length+1:=by rw [bv,Y,jP,jg,aw]
  have dm:c6.l.length=p.l.length+1:=by rw [bw,av,jP,jg,cp]
  have dn:=K.rp.1.1
  have dp:=K.rc.1.1
  refine Wk ?_
  refine zz5 rfl ?_
  refine U_t [0,1,2,6,8,12,3,9,4,10,5,11] rfl ?_
  simp only [go_sem,jq,jj,jy,jv,jk,jx,u,a,d,j,m,n,r,t,true_or,JA,JB,Jg,je,jA,zza,zzb,ite_self,qQ,jW]
  refine U_m 7 [13] ⟨?_,?_,trivial⟩
  ·refine U_b 7 0 [11,10,9] rfl rfl ?_
   simp only [go_sem,jq,jj,jy,jv,jk,jx,u,a,d,j,m,n,r,t,true_or,JA,JB,Jg,je,jA,zza,zzb,ite_self,qQ,jW]
   refine ⟨by omega,?_⟩
   rw [zzc (by omega)]
   try simp only [go_sem,jq,jj,jy,jv,jk,jx,u,a,d,j,m,n,r,t,true_or,JA,JB,Jg,je,jA,zza,zzb,ite_self,qQ,jW]
   refine U_t [14,15] rfl ?_
   simp only [go_sem,jq,jj,jy,jv,jk,jx,u,a,d,j,m,n,r,t,true_or,JA,JB,Jg,je,jA,zza,zzb,ite_self,qQ,jW]
   refine U_m 13 [16] ⟨?_,?_,trivial⟩
   ·refine U_b 13 0 [15,14] rfl rfl ?_
    simp only [go_sem,jq,jj,jy,jv,jk,jx,u,a,d,j,m,n,r,t,true_or,JA,JB,Jg,je,jA,zza,zzb,ite_self,qQ,jW]
    refine ⟨by omega,?_⟩
    rw [zzc (by omega)]
    try simp only [go_sem,jq,jj,jy,jv,jk,jx,u,a,d,j,m,n,r,t,true_or,JA,JB,Jg,je,jA,zza,zzb,ite_self,qQ,jW]
    refine U_1 16 1 [] rfl rfl ?_
    simp only [go_sem,jq,jj,jy,jv,jk,jx,u,a,d,j,m,n,r,t,true_or,JA,JB,Jg,je,jA,zza,zzb,ite_self,qQ,jW]
    refine zMY (xs':=plC x L (.func (.func F) #[] cs.toArray) (p6.to p.l.length) c6 aa ab ac ae) (by simp only [go_sem]) (by simp only [go_sem]) rfl rfl K.bx (own b H.nb) (by simp [plC]) rfl ?_
    obtain ⟨u,a,d,j,m,n,r,t⟩:=zMX (h:=h6.ins b (.cells (plC x L (.func (.func F) #[] cs.toArray) (p6.to p.l.length) c6 aa ab ac ae).toArray 262 (0,0))) qD
    try simp only [go_sem,jq,jj,jy,jv,jk,jx,u,a,d,j,m,n,r,t,true_or,JA,JB,Jg,je,jA,zza,zzb,ite_self,qQ,jW]
    refine U_t [17,18] rfl ?_
    simp only [go_sem,jq,jj,jy,jv,jk,jx,u,a,d,j,m,n,r,t,true_or,JA,JB,Jg,je,jA,zza,zzb,ite_self,qQ,jW]
    refine U_1 19 1 [] rfl rfl ?_
    simp only [go_sem,jq,jj,jy,jv,jk,jx,u,a,d,j,m,n,r,t,true_or,JA,JB,Jg,je,jA,zza,zzb,ite_self,qQ,jW]
    refine zMY (xs':=plC x L (.func (.func F) #[] cs.toArray) (p6.to p.l.length) (c6.to p.l.length) aa ab ac ae) (by simp only [go_sem]) (by simp only [go_sem]) rfl rfl qD (own b H.nb) (by simp [plC]) rfl ?_
    refine Evs ?_
    rw [qf]
    refine U_d ?_
    refine Wk ?_
    refine ⟨(k+1,_,p6.to p.l.length,c6.to p.l.length,aa,ab,ac,ae),[],⟨X,PV.mk2 K K.le (K.rp.cut (by omega)) (fun y D=>K.op y (yB D)) (K.rc.cut (by omega)) K.rb K.d1 K.d2 K.d3,?_,?_,?_⟩,by simp only;omega,?_⟩
    ·show p6.l.take p.l.length=p.l
     rw [bv,Y,R]
     exact uP rfl
    ·show c6.l.take p.l.length=ch.l
     rw [bw,av,ao]
     exact uP (by rw [an,zJd,bq])
    ·simp only
     rw [yg,yp,wH,uY,au,if_pos N]
     have aq:=cb
     rw [show p5.l.length=p.l.length+1 by rw [Y,jP,jg,aw],Y,R,qB,wx,yD] at aq
     exact aq
    refine Evs ?_
    exact Gi (zjA X (by omega))
   ·refine U_b 16 1 [] rfl rfl ?_
    simp only [go_sem,jq,jj,jy,jv,jk,jx,u,a,d,j,m,n,r,t,true_or,JA,JB,Jg,je,jA,zza,zzb,ite_self,qQ,jW]
    refine zMY (xs':=plC x L (.func (.func F) #[] cs.toArray) (p6.to p.l.length) c6 aa ab ac ae) (by simp only [go_sem]) (by simp only [go_sem]) rfl rfl K.bx (own b H.nb) (by simp [plC]) rfl ?_
    obtain ⟨u,a,d,j,m,n,r,t⟩:=zMX (h:=h6.ins b (.cells (plC x L (.func (.func F) #[] cs.toArray) (p6.to p.l.length) c6 aa ab ac ae).toArray 262 (0,0))) qD
    try simp only [go_sem,jq,jj,jy,jv,jk,jx,u,a,d,j,m,n,r,t,true_or,JA,JB,Jg,je,jA,zza,zzb,ite_self,qQ,jW]
    refine U_1 13 0 [] rfl rfl ?_
    simp only [go_sem,jq,jj,jy,jv,jk,jx,u,a,d,j,m,n,r,t,true_or,JA,JB,Jg,je,jA,zza,zzb,ite_self,qQ,jW]
    refine ⟨by omega,?_⟩
    rw [zzc (by omega)]
    try simp only [go_sem,jq,jj,jy,jv,jk,jx,u,a,d,j,m,n,r,t,true_or,JA,JB,Jg,je,jA,zza,zzb,ite_self,qQ,jW]
    refine U_t [17,18] rfl ?_
    simp only [go_sem,jq,jj,jy,jv,jk,jx,u,a,d,j,m,n,r,t,true_or,JA,JB,Jg,je,jA,zza,zzb,ite_self,qQ,jW]
    refine U_1 19 1 [] rfl rfl ?_
    simp only [go_sem,jq,jj,jy,jv,jk,jx,u,a,d,j,m,n,r,t,true_or,JA,JB,Jg,je,jA,zza,zzb,ite_self,qQ,jW]
    refine zMY (xs':=plC x L (.func (.func F) #[] cs.toArray) (p6.to p.l.length) (c6.to p.l.length) aa ab ac ae) (by simp only [go_sem]) (by simp only [go_sem]) rfl rfl qD (own b H.nb) (by simp [plC]) rfl ?_
    refine Evs ?_
    rw [qf]
    refine U_d ?_
    refine Wk ?_
    refine ⟨(k+1,_,p6.to p.l.length,c6.to p.l.length,aa,ab,ac,ae),[],⟨X,PV.mk2 K K.le (K.rp.cut (by omega)) (fun y D=>K.op y (yB D)) (K.rc.cut (by omega)) K.rb K.d1 K.d2 K.d3,?_,?_,?_⟩,by simp only;omega,?_⟩
    ·show p6.l.take p.l.length=p.l
     rw [bv,Y,R]
     exact uP rfl
    ·show c6.l.take p.l.length=ch.l
     rw [bw,av,ao]
     exact uP (by rw [an,zJd,bq])
    ·simp only
     rw [yg,yp,wH,uY,au,if_pos N]
     have aq:=cb
     rw [show p5.l.length=p.l.length+1 by rw [Y,jP,jg,aw],Y,R,qB,wx,yD] at aq
     exact aq
    refine Evs ?_
    exact Gi (zjA X (by omega))
  ·refine U_b 13 0 [5,4,3] rfl rfl ?_
   simp only [go_sem,jq,jj,jy,jv,jk,jx,u,a,d,j,m,n,r,t,true_or,JA,JB,Jg,je,jA,zza,zzb,ite_self,qQ,jW]
   refine ⟨by omega,?_⟩
   rw [zzc (by omega)]
   try simp only [go_sem,jq,jj,jy,jv,jk,jx,u,a,d,j,m,n,r,t,true_or,JA,JB,Jg,je,jA,zza,zzb,ite_self,qQ,jW]
   refine U_1 7 0 [] rfl rfl ?_
   simp only [go_sem,jq,jj,jy,jv,jk,jx,u,a,d,j,m,n,r,t,true_or,JA,JB,Jg,je,jA,zza,zzb,ite_self,qQ,jW]
   refine ⟨by omega,?_⟩
   rw [zzc (by omega)]
   try simp only [go_sem,jq,jj,jy,jv,jk,jx,u,a,d,j,m,n,r,t,true_or,JA,JB,Jg,je,jA,zza,zzb,ite_self,qQ,jW]
   refine U_t [14,15] rfl ?_
   simp only [go_sem,jq,jj,jy,jv,jk,jx,u,a,d,j,m,n,r,t,true_or,JA,JB,Jg,je,jA,zza,zzb,ite_self,qQ,jW]
   refine U_1 16 1 [] rfl rfl ?_
   simp only [go_sem,jq,jj,jy,jv,jk,jx,u,a,d,j,m,n,r,t,true_or,JA,JB,Jg,je,jA,zza,zzb,ite_self,qQ,jW]
   refine zMY (xs':=plC x L (.func (.func F) #[] cs.toArray) (p6.to p.l.length) c6 aa ab ac ae) (by simp only [go_sem]) (by simp only [go_sem]) rfl rfl K.bx (own b H.nb) (by simp [plC]) rfl ?_
   obtain ⟨u,a,d,j,m,n,r,t⟩:=zMX (h:=h6.ins b (.cells (plC x L (.func (.func F) #[] cs.toArray) (p6.to p.l.length) c6 aa ab ac ae).toArray 262 (0,0))) qD
   try simp only [go_sem,jq,jj,jy,jv,jk,jx,u,a,d,j,m,n,r,t,true_or,JA,JB,Jg,je,jA,zza,zzb,ite_self,qQ,jW]
   refine U_t [17,18] rfl ?_
   simp only [go_sem,jq,jj,jy,jv,jk,jx,u,a,d,j,m,n,r,t,true_or,JA,JB,Jg,je,jA,zza,zzb,ite_self,qQ,jW]
   refine U_1 19 1 [] rfl rfl ?_
   simp only [go_sem,jq,jj,jy,jv,jk,jx,u,a,d,j,m,n,r,t,true_or,JA,JB,Jg,je,jA,zza,zzb,ite_self,qQ,jW]
   refine zMY (xs':=plC x L (.func (.func F) #[] cs.toArray) (p6.to p.l.length) (c6.to p.l.length) aa ab ac ae) (by simp only [go_sem]) (by simp only [go_sem]) rfl rfl qD (own b H.nb) (by simp [plC]) rfl ?_
   refine Evs ?_
   rw [qf]
   refine U_d ?_
   refine Wk ?_
   refine ⟨(k+1,_,p6.to p.l.length,c6.to p.l.length,aa,ab,ac,ae),[],⟨X,PV.mk2 K K.le (K.rp.cut (by omega)) (fun y D=>K.op y (yB D)) (K.rc.cut (by omega)) K.rb K.d1 K.d2 K.d3,?_,?_,?_⟩,by simp only;omega,?_⟩
   ·show p6.l.take p.l.length=p.l
    rw [bv,Y,R]
    exact uP rfl
   ·show c6.l.take p.l.length=ch.l
    rw [bw,av,ao]
    exact uP (by rw [an,zJd,bq])
   ·simp only
    rw [yg,yp,wH,uY,au,if_pos N]
    have aq:=cb
    rw [show p5.l.length=p.l.length+1 by rw [Y,jP,jg,aw],Y,R,qB,wx,yD] at aq
    exact aq
   refine Evs ?_
   exact Gi (zjA X (by omega))
 ·have du:=zjI hd
  obtain rfl:k=L.l[p.l.length].l.length:=by omega
  refine Wk ?_
  refine ⟨J,O,al,n0,n1,am,z,R,ao,?_⟩
  rw [zM1 hi,srW,if_neg (by rw [N];exact qa),jH]
  exact bt
theorem zM4 (x:DHarbour) (a:Sl DCall) (h:Hp) (H:jD h x) (u:a.Ok h) (X:a.l.length≤1048576):Ct jV 135 [x.v,a.val] h fun v h'=>∃ s:Sl (Sl DOption),v=s.val∧s.l.map (fun l=>l.l.map (jK (α:=DOption)))=zKH (jK x) a.l∧s.Ok h'∧Mine h h' s:=by
 have Y:=u.max
 refine zdn (fun A W=>by simp) Tryz.func135 rfl rfl (by simp) fun W0=>?_
 refine Wk ?_
 refine zng (ι:=Nat × List (Sl DOption) × Hp) (fun i=>⟨[(2,true,.c (.p 0 0)),(4,true,.c (.v (.slice none 0 0))),(5,true,.c (.s 1)),(9,true,.c (.v a.val)),(10,true,.c (.v (.int .i64 a.l.length))),(11,true,.c (.v (.int .i64 i.1)))],[(0,.box 62 [.v (.int .i64 x.forecast.tide.mean),.v x.forecast.tide.parts.val,.v x.forecast.surges.val,.v x.chart.points.val,.v x.chart.segments.val,.v x.fleet.val,.v (.int .i64 x.regime.gap),.v (.bool x.regime.noMeet),.v (.int .i64 x.crew.tugs),.v (.int .i64 x.crew.pilots),.v (.int .i64 x.crew.rest),.v x.crew.moves.val]),(1,.row 93 1 i.2.1.length (i.2.1.flatMap qx))],i.2.2,2⟩) (fun i=>i.1≤a.l.length∧i.2.1.length=i.1∧i.2.1.map (fun l=>l.l.map (jK (α:=DOption)))=(a.l.take i.1).map (zHa (jK x))∧(∀ y ∈ i.2.1,jD i.2.2 y)∧Mines h i.2.2 i.2.1∧h.le i.2.2) (fun i=>a.l.length - i.1) (0,[],h) ⟨jC _,rfl,rfl,fun y f=>(by cases f),Mines.nil,wW _⟩ [0,1] ?_ ?_
 ·refine Evs ?_
  exact Gk
 rintro ⟨k,acc,J⟩ ⟨w,o,j,b,g,e⟩
 simp only at w o j b g e
 have m:=u.mono e
 have D:jD J x:=jL e H
 refine Wk ?_
 refine zc9 rfl (fun r=>?_) (fun r=>?_)
 ·have d:=zjH r
  repeat' first|refine Wa ?_|(simp only [go_sem,jq,jj,jy,jv,jk,jx,zkT m d,m.some d,d,jW];try rfl)|refine Wb ?_|fail
  refine zkr (zHk x a.l[k] _ D (m.el d)) rfl ?_
  rintro v h2 n ⟨s,rfl,K,F,M⟩
  refine Wk ?_
  refine ⟨by simp only [maxLen];omega,by omega,?_⟩
  refine Wk ?_
  have t:=jB e n
  have N:IntKind.i64.wrap ((k:Int)+1)=((k+1:Nat):Int):=zjA d (by omega)
  refine ⟨(k+1,acc ++ [s],h2),[0,4],⟨d,?_,?_,fun y f=>?_,Mines.snoc g b n e M,t⟩,by simp only;omega,?_⟩
  ·show (acc ++ [s]).length=k+1
   rw [jP,o];rfl
  ·show (acc ++ [s]).map _=(a.l.take (k+1)).map _
   rw [qB,j,qw d,qB]
   congr 1
   exact congrArg (fun z=>[z]) K
  ·rcases List.mem_append.1 f with f|f
   ·exact jL n (b y f)
   ·rw [List.mem_singleton.1 f];exact F
  refine Evs ?_
  rw [N]
  simp only [jF,jP]
  exact Gk
 ·have G:=zjI r
  refine zc6 ?_
  refine Evs ?_
  refine zl7 1 acc rfl rfl rfl rfl (by decide) b h e g fun q h' O Q Z R=>?_
  refine Wk ?_
  refine ⟨q,rfl,?_,Q,R⟩
  rw [O,j,qy G];rfl
theorem zM5 (s:Sl DOption) (h:Hp) (a:s.Ok h):Ct jV 136 [s.val] h fun v h'=>v=.agg #[.int .i64 (zAF (s.l.map jK)),.int .i64 0]∧h'=h:=by
 refine zdn (fun A W=>by simp) Tryz.func136 rfl rfl (by simp) fun W0=>?_
 repeat' first|refine Wa ?_|refine zhF (fun _=>zAI s _ a) ?_|(simp only [go_sem,jq,jj,jy,jv,jk,jx];try rfl)|refine Wb ?_|fail
theorem zM6 {x:PHarbour} {w:List POption→Int}:∀ {L:List (List POption)} {p:List POption} {ch:List Nat} {st:BSt} {a:List Nat} {r2:Int},(∀ l ∈ L,l.length < 100)→(∀ y ∈ ch,y < 100)→(∀ a r2,st=some (a,r2)→∀ y ∈ a,y < 100)→srW x w L p ch st=some (a,r2)→∀ y ∈ a,y < 100
 | [],p,ch,st,a,r2,i,c,b,h=>by
  rw [srW] at h
  split at h
  ·exact b _ _ h
  ·cases h;exact c
 | l :: L,p,ch,st,a,r2,i,c,b,h=>by
  rw [srW] at h
  split at h
  ·exact b _ _ h
  ·have n:=i l (qC ..)
   have o:∀ (d:List Nat) (st:BSt),(∀ k ∈ d,k < 100)→(∀ a r2,st=some (a,r2)→∀ y ∈ a,y < 100)→∀ a r2,d.foldl (fun st k=>if zK7 x p (l.getD k zGU)=true then srW x w L (p ++ [l.getD k zGU]) (ch ++ [k]) st else st) st=some (a,r2)→∀ y ∈ a,y < 100:=by
    intro d
    induction d with
    | nil=>intro st _ f a r2 h;exact f a r2 h
    | cons k d q =>
     intro st g f a r2 h
     rw [wH] at h
     refine q _ (fun j r=>g j (qg _ r)) (fun s t m=>?_) a r2 h
     split at m
     ·refine zM6 (fun l n=>i l (qg _ n)) (fun y e=>?_) f m
      rcases List.mem_append.1 e with e|e
      ·exact c y e
      ·rw [List.mem_singleton.1 e];exact g k (qC ..)
     ·exact f s t m
   exact o _ st (fun k u=>by have:=List.mem_range.1 u;omega) b a r2 h
set_option maxRecDepth 30000 in
theorem zM7 (x:DHarbour) (L:Sl (Sl DOption)) (e:Nat) (cs:List Value) (w:List POption→Int) (h:Hp) (hx:jD h x) (hL:L.Ok h) (hR:zBC x.regime=true) (Q:L.l.length≤6) (G:∀ l ∈ L.l,l.l.length≤90) (R:∀ l ∈ L.l,∀ y ∈ l.l,zKs (jK x.chart) x.fleet.l y.pas.l∧y.pas.l.length≤1000)
  (hw:∀ (s:Sl DOption) (h':Hp),s.Ok h'→h.le h'→s.l.length≤6→Ct jV e ([s.val] ++ cs) h' fun v h2=>v=.agg #[.int .i64 (w (s.l.map jK)),.int .i64 0]∧h2=h') :
  Ct jV 134 [x.v,L.val,.func (.func e) #[] cs.toArray] h fun v h'=>∃ (s:Sl Int) (c:Int) (X:Bool),v=.tuple #[s.val,.agg #[.int .i64 c,.int .i64 0],.bool X]∧(s.l,c,X)=zML (srW (jK x) w (LL L) [] [] none)∧s.Ok h'∧Mine h h' s:=by
 refine zdn (fun A W=>by simp) Tryz.func134 rfl rfl (by simp) fun W0=>?_
 refine zie rfl ?_
 refine Evs ?_
 refine zie rfl ?_
 refine Evs ?_
 refine zze 2 rfl rfl fun g a ab=>?_
 refine Evs ?_
 have P0:PV h (h.ins g (.cells (plC x L (.func (.func e) #[] cs.toArray) (Sl.mk none 0 []) (Sl.mk none 0 []) (Sl.mk none 0 []) 0 0 false).toArray 262 (0,0))) g x L (.func (.func e) #[] cs.toArray) (Sl.mk none 0 []) (Sl.mk none 0 []) (Sl.mk none 0 []) 0 0 false :=
  ⟨Hp.ins_le a,hx,hL,a,qD,⟨⟨qV _,jC _,.inl ⟨rfl,rfl,rfl⟩⟩,fun g a=>(by cases a)⟩,fun y b=>(by cases b),⟨⟨qV _,jC _,.inl ⟨rfl,rfl,rfl⟩⟩,fun g a=>(by cases a)⟩,⟨⟨qV _,jC _,.inl ⟨rfl,rfl,rfl⟩⟩,fun g a=>(by cases a)⟩,fun g a=>(by cases a),fun g a=>(by cases a),fun g a=>(by cases a)⟩
 first|refine zzr [0,1] rfl ?_|refine zzq [0,1] rfl ?_|(refine zc3 ?_;first|refine zzr [0,1] rfl ?_|refine zzq [0,1] rfl ?_)
 try simp only [go_sem,jq,jj,jy,jv,jk,jx]
 refine zlL (zM3 h g x L e cs w hR Q G R hw L.l.length [] (Sl.mk none 0 []) (Sl.mk none 0 []) (Sl.mk none 0 []) 0 0 false none _ P0 ⟨rfl,rfl,rfl,rfl⟩ (jb _) rfl rfl (fun y b=>(by cases b)) (fun y b=>(by cases b))) rfl (fun k Y=>⟨Y.2,.inl Y.1⟩) ?_
 rintro v h6 kp ⟨p6,c6,i,H,Z,j,F,ac,ae,d⟩
 obtain ⟨J,m,n,o,p,q,t,u⟩:=zMX F.bx
 refine Wk ?_
 refine zz5 rfl ?_
 refine U_t [0,4,8,1,5,9,2,6,10,3,7,11,12] rfl ?_
 simp only [go_sem,jq,jj,jy,jv,jk,jx,J,m,n,o,p,q,t,u,true_or,JA,JB,Jg]
 refine U_1 13 0 [11,10,9] rfl rfl ?_
 simp only [go_sem,jq,jj,jy,jv,jk,jx,J,m,n,o,p,q,t,u,true_or,JA,JB,Jg]
 refine U_t [14] rfl ?_
 simp only [go_sem,jq,jj,jy,jv,jk,jx,J,m,n,o,p,q,t,u,true_or,JA,JB,Jg]
 refine U_d ?_
 refine Wk ?_
 have d:BS (srW (jK x) w (LL L) [] [] none) i H Z j:=d
 have f:Z=0∧(i.l,H,j)=zML (srW (jK x) w (LL L) [] [] none)∧∀ y ∈ i.l,I64 y:=by
  cases K:srW (jK x) w (LL L) [] [] none with
  | none =>
   rw [K] at d
   obtain ⟨M,D,N,O⟩:=d
   exact ⟨O,by rw [M,D,N];rfl,fun y b=>by rw [D] at b;cases b⟩
  | some r =>
   obtain ⟨r1,r2⟩:=r
   have aa:=zM6 (fun l hl=>by
    obtain ⟨z,f,rfl⟩:=List.mem_map.1 hl
    rw [jH];exact JK (G z f) (by decide)) (fun y b=>(by cases b)) (fun _ _ h=>by cases h) K
   rw [K] at d
   obtain ⟨M,D,N,O⟩:=d
   refine ⟨O,by rw [M,D,N];rfl,fun y b=>?_⟩
   rw [D] at b
   obtain ⟨z,f,rfl⟩:=List.mem_map.1 b
   have:=aa z f
   show I64 _;unfold I64;omega
 obtain ⟨rfl,f,hI⟩:=f
 exact ⟨i,H,j,rfl,f,F.rb.1.ok (by decide) hI,zJU F.rb.1 fun g a=>(F.rb.2 g a).1⟩
theorem zM8 {x:DHarbour} {a:List DCall} {L:Sl (Sl DOption)} (h:L.l.map (fun l=>l.l.map (jK (α:=DOption)))=zKH (jK x) a):(∀ l ∈ L.l,l.l.length≤90)∧(∀ l ∈ L.l,∀ y ∈ l.l,zKs (jK x.chart) x.fleet.l y.pas.l∧y.pas.l.length≤1000)∧∀ l ∈ L.l,∀ y ∈ l.l,0≤y.cost∧y.cost≤2880∧Sz.sz (jK y)≤8:=by
 have i:∀ l ∈ L.l,∃ c ∈ a,l.l.map (jK (α:=DOption))=zHa (jK x) c:=fun l b=>by
  have:l.l.map (jK (α:=DOption)) ∈ zKH (jK x) a:=by rw [← h];exact List.mem_map.2 ⟨l,b,rfl⟩
  rw [zKH] at this
  obtain ⟨c,d,e⟩:=List.mem_map.1 this
  exact ⟨c,d,e.symm⟩
 have mem:∀ l ∈ L.l,∀ y ∈ l.l,∃ c,jK y ∈ zHa (jK x) c:=fun l b y f=>by
  obtain ⟨c,_,e⟩:=i l b
  exact ⟨c,by rw [← e];exact List.mem_map.2 ⟨y,f,rfl⟩⟩
 refine ⟨fun l b=>?_,fun l b y f=>?_,fun l b y f=>?_⟩
 ·obtain ⟨c,_,e⟩:=i l b
  have:=(zHq (x:=jK x) (a:=c)).1
  rw [← e,jH] at this
  omega
 ·obtain ⟨c,d⟩:=mem l b y f
  have g:=zKA _ d
  rw [zLc] at g
  have h2:=(zHq (x:=jK x) (a:=c)).2 _ d
  refine ⟨g,?_⟩
  have j:=zLY h2
  omega
 ·obtain ⟨c,d⟩:=mem l b y f
  have g:=zHI _ d
  exact ⟨g.1,g.2,(zHq (x:=jK x) (a:=c)).2 _ d⟩
set_option maxRecDepth 30000 in
theorem zM9 (x:DHarbour) (a:Sl DCall) (h:Hp) (m:jD h x) (z:a.Ok h):Ct jV 58 [x.v,a.val] h fun v h'=>∃ s:Sl Int,v=.tuple #[s.val,.int .i64 (zMM (jK x) (jK a)).2.1,.bool (zMM (jK x) (jK a)).2.2]∧jK s=(zMM (jK x) (jK a)).1∧s.Ok h'∧Mine h h' s:=by
 rw [zB6]
 refine zdn (fun A W=>by simp) Tryz.func58 rfl rfl (by simp) fun W0=>?_
 repeat' first|refine Wa ?_|refine zhF (fun _=>zB8 x a _ m z) ?_|(simp only [go_sem,jq,jj,jy,jv,jk,jx];try rfl)|refine Wb ?_|fail
 rw [zB6]
 refine zc9 rfl (fun i=>?_) (fun i=>?_)
 ·rw [jd] at i
  have n:zMM (jK x) a.l=([],0,false):=by rw [zMM,if_neg (by rw [i];exact qa)]
  rw [n]
  refine Wk ?_
  exact ⟨⟨none,0,[]⟩,rfl,rfl,znE,Mine.nil⟩
 rw [jf] at i
 have N:=zKM i
 have G:a.l.length≤1048576:=by omega
 obtain ⟨o,O⟩:=zMQ i
 have o:zBC x.regime=true:=o
 rw [zMM,if_pos i]
 have D:(0:Int) < ((2:Nat):Int):=by decide
 have n:∀ (L:Sl (Sl DOption)) (b:L.l.map (fun l=>l.l.map (jK (α:=DOption)))=zKH (jK x) a.l) (s:Sl Int) (c:Int) (f:Bool),(s.l,c,f)=zML (srW (jK x) zAF (LL L) [] [] none)→zML (srI (jK x) (zKH (jK x) a.l) [] [] none)=(s.l,c,f):=fun L b s c f j=>by
  have K:LL L=zKH (jK x) a.l:=b
  rw [j,K,zMS (by rw [qY,zKL];omega) (fun y F=>(by cases F)) fun l H y F=>?_]
  rw [zKH] at H
  obtain ⟨d,_,rfl⟩:=List.mem_map.1 H
  exact zHI y F
 refine Wk ?_
 refine zz5 rfl ?_
 refine U_t [0,1,2] rfl ?_
 refine Evs ?_
 refine U_m 3 [9] ⟨?_,?_,trivial⟩
 ·refine U_b 3 0 [0] rfl rfl ?_
  refine Evs ?_
  refine zkr (zM4 x a _ m z G) rfl ?_
  rintro v M e ⟨L,rfl,b,k,mL⟩
  try simp only [go_sem,jq,jj,jy,jv,jk,jx]
  refine U_m 4 [9] ⟨?_,?_,trivial⟩
  ·refine U_b 4 0 [] rfl rfl ?_
   refine Evs ?_
   obtain ⟨p,q,J⟩:=zM8 b
   have u:L.l.length=a.l.length:=by have:=congrArg ud b;rwa [jH,zKL] at this
   refine zkr (zM7 x L 136 [] zAF _ (jL e m) k o (by omega) p q (fun s h' r _ _=>zM5 s h' r)) rfl ?_
   rintro v h2 w ⟨s,c,f,rfl,j,g,t⟩
   try simp only [go_sem,jq,jj,jy,jv,jk,jx]
   refine U_t [5,6,7,8] rfl ?_
   refine Evs ?_
   refine U_1 9 0 [8,7,6] rfl rfl ?_
   refine Evs ?_
   refine U_t [10] rfl ?_
   refine Evs ?_
   refine U_1 11 0 [8] rfl rfl ?_
   refine Evs ?_
   refine U_t [12] rfl ?_
   refine Evs ?_
   refine U_d ?_
   refine Wk ?_
   refine zz5 rfl ?_
   refine U_t [0,1,3,2,4,5,6] rfl ?_
   simp only [go_sem,jq,jj,jy,jv,jk,jx,je,jA,jb,qF,D,Jg,JA,JB,JC]
   refine U_d ?_
   refine Wk ?_
   rw [n L b s c f j]
   exact ⟨s,rfl,con_ints,g,t.back e⟩
  ·refine U_b 9 0 [0] rfl rfl ?_
   refine Evs ?_
   refine U_1 4 0 [] rfl rfl ?_
   refine Evs ?_
   obtain ⟨p,q,J⟩:=zM8 b
   have u:L.l.length=a.l.length:=by have:=congrArg ud b;rwa [jH,zKL] at this
   refine zkr (zM7 x L 136 [] zAF _ (jL e m) k o (by omega) p q (fun s h' r _ _=>zM5 s h' r)) rfl ?_
   rintro v h2 w ⟨s,c,f,rfl,j,g,t⟩
   try simp only [go_sem,jq,jj,jy,jv,jk,jx]
   refine U_t [5,6,7,8,10] rfl ?_
   refine Evs ?_
   refine U_1 11 0 [8] rfl rfl ?_
   refine Evs ?_
   refine U_t [12] rfl ?_
   refine Evs ?_
   refine U_d ?_
   refine Wk ?_
   refine zz5 rfl ?_
   refine U_t [0,1,3,2,4,5,6] rfl ?_
   simp only [go_sem,jq,jj,jy,jv,jk,jx,je,jA,jb,qF,D,Jg,JA,JB,JC]
   refine U_d ?_
   refine Wk ?_
   rw [n L b s c f j]
   exact ⟨s,rfl,con_ints,g,t.back e⟩
 ·refine U_b 9 0 [1,0] rfl rfl ?_
  refine Evs ?_
  refine U_1 3 0 [0] rfl rfl ?_
  refine Evs ?_
  refine zkr (zM4 x a _ m z G) rfl ?_
  rintro v M e ⟨L,rfl,b,k,mL⟩
  try simp only [go_sem,jq,jj,jy,jv,jk,jx]
  refine U_1 4 0 [] rfl rfl ?_
  refine Evs ?_
  obtain ⟨p,q,J⟩:=zM8 b
  have u:L.l.length=a.l.length:=by have:=congrArg ud b;rwa [jH,zKL] at this
  refine zkr (zM7 x L 136 [] zAF _ (jL e m) k o (by omega) p q (fun s h' r _ _=>zM5 s h' r)) rfl ?_
  rintro v h2 w ⟨s,c,f,rfl,j,g,t⟩
  try simp only [go_sem,jq,jj,jy,jv,jk,jx]
  refine U_t [5,6,7,8,10] rfl ?_
  refine Evs ?_
  refine U_1 11 0 [8] rfl rfl ?_
  refine Evs ?_
  refine U_t [12] rfl ?_
  refine Evs ?_
  refine U_d ?_
  refine Wk ?_
  refine zz5 rfl ?_
  refine U_t [0,1,3,2,4,5,6] rfl ?_
  simp only [go_sem,jq,jj,jy,jv,jk,jx,je,jA,jb,qF,D,Jg,JA,JB,JC]
  refine U_d ?_
  refine Wk ?_
  rw [n L b s c f j]
  exact ⟨s,rfl,con_ints,g,t.back e⟩
def zNa (f:DOption→DOption→Bool) (o:DOption) (b:Sl DOption):List Bool:=b.l.map (f o)
def zNb (f:DOption→DOption→Bool) (a b:Sl DOption):List (List Bool):=a.l.map fun o=>zNa f o b
def zNc (f:DOption→DOption→Bool) (L:List (Sl DOption)) (a:Sl DOption):List (List (List Bool)):=L.map (zNb f a)
def zNd (f:DOption→DOption→Bool) (L:List (Sl DOption)):List (List (List (List Bool))):=L.map (zNc f L)
def con2 (s:Sl (Sl Bool)):List (List Bool):=s.l.map (·.l)
def con3 (s:Sl (Sl (Sl Bool))):List (List (List Bool)):=s.l.map con2
def con4 (s:Sl (Sl (Sl (Sl Bool)))):List (List (List (List Bool))):=s.l.map con3
def cl (x:DHarbour) (o p:DOption):Bool:=zCq (jK x.chart) x.regime o.pas.l p.pas.l
theorem zNe {α β γ:Type} {f:α→β} {g:γ→β} {l:List α} {a:List γ} (h:l.map f=a.map g) {i:Nat} (d:i < l.length) (b:i < a.length):f l[i]=g a[i]:=by
 have c:(l.map f)[i]?=(a.map g)[i]?:=by rw [h]
 rw [yC,yC,qX d,qX b] at c
 exact Option.some.inj c
theorem zNf {α β γ:Type} {f:α→β} {g:γ→β} {l:List α} {a:List γ} (h:l.map f=a.map g):l.length=a.length:=by
 have:=congrArg ud h
 rwa [jH,jH] at this
set_option maxRecDepth 30000 in
theorem zNg (x:DHarbour) (L:Sl (Sl DOption)) (h:Hp) (hx:jD h x) (hL:L.Ok h) (bd:L.l.length≤6) (ag:∀ l ∈ L.l,l.l.length≤90) (al:L.l ≠ []→zBp (jK x.chart)=true∧zBC x.regime=true):Ct jV 211 [x.v,L.val] h fun v h'=>∃ s:Sl (Sl (Sl (Sl Bool))),v=s.val∧con4 s=zNd (cl x) L.l∧s.Ok h':=by
 have hl:=hL.max
 refine zdn (fun A W=>by simp) Tryz.func211 rfl rfl (by simp) fun W0=>?_
 refine Wk ?_
 refine zng (ι:=Nat × List (Sl (Sl (Sl Bool))) × Hp) (fun t=>⟨[(1,true,.c (.v L.val)),(2,true,.c (.p 0 0)),(4,true,.c (.v (.slice none 0 0))),(5,true,.c (.s 1)),(18,true,.c (.v L.val)),(19,true,.c (.v (.int .i64 L.l.length))),(20,true,.c (.v (.int .i64 t.1)))],[(0,.box 62 [.v (.int .i64 x.forecast.tide.mean),.v x.forecast.tide.parts.val,.v x.forecast.surges.val,.v x.chart.points.val,.v x.chart.segments.val,.v x.fleet.val,.v (.int .i64 x.regime.gap),.v (.bool x.regime.noMeet),.v (.int .i64 x.crew.tugs),.v (.int .i64 x.crew.pilots),.v (.int .i64 x.crew.rest),.v x.crew.moves.val]),(1,.row 308 1 t.1 (t.2.1.flatMap qx))],t.2.2,2⟩) (fun t=>t.1≤L.l.length∧t.2.1.length=t.1∧t.2.1.map con3=(L.l.take t.1).map (zNc (cl x) L.l)∧(∀ y ∈ t.2.1,jD t.2.2 y)∧h.le t.2.2) (fun t=>L.l.length - t.1) (0,[],h) ⟨jC _,rfl,rfl,fun y a=>(by cases a),wW _⟩ [0,1] ?_ ?_
 ·refine Evs ?_
  exact Gk
 rintro ⟨i,G,h1⟩ ⟨hi,H,J,K,F⟩
 simp only at hi H J K F
 have ah:=hL.mono F
 refine Wk ?_
 refine zc9 rfl (fun M=>?_) (fun M=>?_)
 ·have b:=zjH M
  obtain ⟨hC,hR⟩:=al (fun e=>by rw [e] at b;cases b)
  have aw:=ag _ (qd b)
  repeat' first|refine Wa ?_|(simp only [go_sem,jq,jj,jy,jv,jk,jx,zkQ ah b,ah.some b,b,jW];try rfl)|refine Wb ?_|fail
  refine zng (ι:=Nat × List (Sl (Sl Bool)) × Hp) (fun t=>⟨[(1,true,.c (.v L.val)),(2,true,.c (.p 0 0)),(4,true,.c (.v (.slice none 0 0))),(5,true,.c (.s 1)),(7,true,.c (.v L.l[i].val)),(8,true,.c (.s 2)),(18,true,.c (.v L.val)),(19,true,.c (.v (.int .i64 L.l.length))),(20,true,.c (.v (.int .i64 i))),(25,true,.c (.v L.val)),(26,true,.c (.v (.int .i64 L.l.length))),(27,true,.c (.v (.int .i64 t.1)))],[(0,.box 62 [.v (.int .i64 x.forecast.tide.mean),.v x.forecast.tide.parts.val,.v x.forecast.surges.val,.v x.chart.points.val,.v x.chart.segments.val,.v x.fleet.val,.v (.int .i64 x.regime.gap),.v (.bool x.regime.noMeet),.v (.int .i64 x.crew.tugs),.v (.int .i64 x.crew.pilots),.v (.int .i64 x.crew.rest),.v x.crew.moves.val]),(1,.row 308 1 i (G.flatMap qx)),(2,.row 309 1 t.1 (t.2.1.flatMap qx))],t.2.2,3⟩) (fun t=>t.1≤L.l.length∧t.2.1.length=t.1∧t.2.1.map con2=(L.l.take t.1).map (zNb (cl x) L.l[i])∧(∀ y ∈ t.2.1,jD t.2.2 y)∧h1.le t.2.2) (fun t=>L.l.length - t.1) (0,[],h1) ⟨jC _,rfl,rfl,fun y a=>(by cases a),wW _⟩ [0,1,2] ?_ ?_
  ·refine Evs ?_
   exact Gk
  rintro ⟨j,rs,h2⟩ ⟨am,N,O,Q,r⟩
  simp only at am N O Q r
  have w:=jB F r
  have ai:=hL.mono w
  refine Wk ?_
  refine zc9 rfl (fun R=>?_) (fun R=>?_)
  ·have d:=zjH R
   have ax:=ag _ (qd d)
   repeat' first|refine Wa ?_|(simp only [go_sem,jq,jj,jy,jv,jk,jx,zkQ ai d,ai.some d,d,jW];try rfl)|refine Wb ?_|fail
   refine zng (ι:=Nat × List (Sl Bool) × Hp) (fun t=>⟨[(1,true,.c (.v L.val)),(2,true,.c (.p 0 0)),(4,true,.c (.v (.slice none 0 0))),(5,true,.c (.s 1)),(7,true,.c (.v L.l[i].val)),(8,true,.c (.s 2)),(10,true,.c (.v L.l[j].val)),(11,true,.c (.s 3)),(18,true,.c (.v L.val)),(19,true,.c (.v (.int .i64 L.l.length))),(20,true,.c (.v (.int .i64 i))),(25,true,.c (.v L.val)),(26,true,.c (.v (.int .i64 L.l.length))),(27,true,.c (.v (.int .i64 j))),(32,true,.c (.v L.l[i].val)),(33,true,.c (.v (.int .i64 L.l[i].l.length))),(34,true,.c (.v (.int .i64 t.1)))],[(0,.box 62 [.v (.int .i64 x.forecast.tide.mean),.v x.forecast.tide.parts.val,.v x.forecast.surges.val,.v x.chart.points.val,.v x.chart.segments.val,.v x.fleet.val,.v (.int .i64 x.regime.gap),.v (.bool x.regime.noMeet),.v (.int .i64 x.crew.tugs),.v (.int .i64 x.crew.pilots),.v (.int .i64 x.crew.rest),.v x.crew.moves.val]),(1,.row 308 1 i (G.flatMap qx)),(2,.row 309 1 j (rs.flatMap qx)),(3,.row 159 1 t.1 (t.2.1.flatMap qx))],t.2.2,4⟩) (fun t=>t.1≤L.l[i].l.length∧t.2.1.length=t.1∧t.2.1.map (·.l)=(L.l[i].l.take t.1).map (fun o=>zNa (cl x) o L.l[j])∧(∀ y ∈ t.2.1,jD t.2.2 y)∧h2.le t.2.2) (fun t=>L.l[i].l.length - t.1) (0,[],h2) ⟨jC _,rfl,rfl,fun y a=>(by cases a),wW _⟩ [0,1,2,3] ?_ ?_
   ·refine Evs ?_
    exact Gk
   rintro ⟨n,ts,h3⟩ ⟨an,X,Y,Z,u⟩
   simp only at an X Y Z u
   have q:=jB w u
   have ao:jD h3 x:=jL q hx
   have aj:=hL.mono q
   have aa:L.l[i].Ok h3:=Sl.Ok.el aj b
   have ab:L.l[j].Ok h3:=Sl.Ok.el aj d
   refine Wk ?_
   refine zc9 rfl (fun ac=>?_) (fun ac=>?_)
   ·have g:=zjH ac
    repeat' first|refine Wa ?_|(simp only [go_sem,jq,jj,jy,jv,jk,jx,zkZ aa g,aa.some g,g,jW];try rfl)|refine Wb ?_|fail
    refine zng (ι:=Nat) (fun m=>⟨[(1,true,.c (.v L.val)),(2,true,.c (.p 0 0)),(4,true,.c (.v (.slice none 0 0))),(5,true,.c (.s 1)),(7,true,.c (.v L.l[i].val)),(8,true,.c (.s 2)),(10,true,.c (.v L.l[j].val)),(11,true,.c (.s 3)),(13,true,.c (.p 4 0)),(14,true,.c (.s 5)),(18,true,.c (.v L.val)),(19,true,.c (.v (.int .i64 L.l.length))),(20,true,.c (.v (.int .i64 i))),(25,true,.c (.v L.val)),(26,true,.c (.v (.int .i64 L.l.length))),(27,true,.c (.v (.int .i64 j))),(32,true,.c (.v L.l[i].val)),(33,true,.c (.v (.int .i64 L.l[i].l.length))),(34,true,.c (.v (.int .i64 n))),(39,true,.c (.v L.l[j].val)),(40,true,.c (.v (.int .i64 L.l[j].l.length))),(41,true,.c (.v (.int .i64 m)))],[(0,.box 62 [.v (.int .i64 x.forecast.tide.mean),.v x.forecast.tide.parts.val,.v x.forecast.surges.val,.v x.chart.points.val,.v x.chart.segments.val,.v x.fleet.val,.v (.int .i64 x.regime.gap),.v (.bool x.regime.noMeet),.v (.int .i64 x.crew.tugs),.v (.int .i64 x.crew.pilots),.v (.int .i64 x.crew.rest),.v x.crew.moves.val]),(1,.row 308 1 i (G.flatMap qx)),(2,.row 309 1 j (rs.flatMap qx)),(3,.row 159 1 n (ts.flatMap qx)),(4,.box 84 [.v (.int .i64 L.l[i].l[n].start),.v (.int .i64 L.l[i].l[n].arr),.v (.int .i64 L.l[i].l[n].cost),.v L.l[i].l[n].pas.val]),(5,.row 4 1 m (((L.l[j].l.take m).map (cl x L.l[i].l[n])).flatMap qx))],h3,6⟩) (fun m=>m≤L.l[j].l.length) (fun m=>L.l[j].l.length - m) 0 (jC _) [0,1,2,3,4,5] ?_ ?_
    ·refine Evs ?_
     exact Gk
    intro m hm
    refine Wk ?_
    refine zc9 rfl (fun ae=>?_) (fun ae=>?_)
    ·have k:=zjH ae
     repeat' first|refine Wa ?_|refine zhF (fun _=>zHv x.chart x.regime L.l[i].l[n].pas L.l[j].l[m].pas _ ao.2.1 hR hC (Sl.Ok.el aa g).2.2.2 (Sl.Ok.el ab k).2.2.2) ?_|(simp only [go_sem,jq,jj,jy,jv,jk,jx,zkZ ab k,ab.some k,k,jW];try rfl)|refine Wb ?_|fail
     refine ⟨by simp only [maxLen];omega,by omega,?_⟩
     refine Wk ?_
     refine ⟨m+1,[0,1,2,3,4,8],k,by omega,?_⟩
     refine Evs ?_
     rw [znH k,jF]
     exact Gi (zjA k (by omega))
    ·have az:=zjI ae
     have ap:m=L.l[j].l.length:=by omega
     rw [ap,qG]
     refine zc6 ?_
     refine Evs ?_
     refine zjQ 5 (zNa (cl x) L.l[i].l[n] L.l[j]) rfl rfl (jH ..).symm rfl (by decide) (fun _ _=>trivial) fun s h' z D f _ _=>?_
     refine Wk ?_
     refine ⟨by simp only [maxLen];omega,by omega,?_⟩
     refine Wk ?_
     refine ⟨(n+1,ts ++ [s],h'),[0,1,2,7],⟨g,by simp [X],by rw [qB,Y,znH g,wx,yD,z],fun y a=>?_,jB u f⟩,by simp only;omega,?_⟩
     ·rcases List.mem_append.1 a with a|a
      ·exact jL f (Z y a)
      ·rw [List.mem_singleton.1 a];exact D
     refine Evs ?_
     rw [jF]
     have ak:=jB q f
     exact Gi (zjA g (by omega))
   ·have a7:=zjI ac
    have aq:n=L.l[i].l.length:=by omega
    refine zc6 ?_
    refine Evs ?_
    refine zjQ 3 ts rfl rfl X.symm rfl (by decide) Z fun s h' z D f _ _=>?_
    refine Wk ?_
    refine ⟨by simp only [maxLen];omega,by omega,?_⟩
    refine Wk ?_
    refine ⟨(j+1,rs ++ [s],h'),[0,1,5],⟨d,by simp [N],?_,fun y a=>?_,jB r (jB u f)⟩,by simp only;omega,?_⟩
    ·rw [qB,O,znH d,wx,yD,con2,z,Y,aq,qG];rfl
    ·rcases List.mem_append.1 a with a|a
     ·exact jL (jB u f) (Q y a)
     ·rw [List.mem_singleton.1 a];exact D
    refine Evs ?_
    rw [jF]
    have ak:=jB q f
    exact Gi (zjA d (by omega))
  ·have a8:=zjI R
   have au:j=L.l.length:=by omega
   refine zc6 ?_
   refine Evs ?_
   refine zjQ 2 rs rfl rfl N.symm rfl (by decide) Q fun s h' z D f _ _=>?_
   refine Wk ?_
   refine ⟨by simp only [maxLen];omega,by omega,?_⟩
   refine Wk ?_
   refine ⟨(i+1,G ++ [s],h'),[0,4],⟨b,by simp [H],?_,fun y a=>?_,jB F (jB r f)⟩,by simp only;omega,?_⟩
   ·rw [qB,J,znH b,wx,yD,con3,z,O,au,qG];rfl
   ·rcases List.mem_append.1 a with a|a
    ·exact jL (jB r f) (K y a)
    ·rw [List.mem_singleton.1 a];exact D
   refine Evs ?_
   rw [jF]
   have ak:=jB w f
   exact Gi (zjA b (by omega))
 ·have bf:=zjI M
  have av:i=L.l.length:=by omega
  refine zc6 ?_
  refine Evs ?_
  refine zjQ 1 G rfl rfl H.symm rfl (by decide) K fun s h' z D _ _ _=>?_
  refine Wk ?_
  exact ⟨s,rfl,by rw [con4,z,J,av,qG];rfl,D⟩
theorem zNh {f:DOption→DOption→Bool} {s:Sl (Sl (Sl (Sl Bool)))} {L:List (Sl DOption)} (h:con4 s=zNd f L) {i j n m:Nat} (d:i < L.length) (e:j < L.length) (g:n < L[i].l.length) (k:m < L[j].l.length) :
  ∃ (a:i < s.l.length) (h2:j < s.l[i].l.length) (b:n < s.l[i].l[j].l.length) (c:m < s.l[i].l[j].l[n].l.length),s.l[i].l[j].l[n].l[m]=f L[i].l[n] L[j].l[m]:=by
 have a:i < s.l.length:=by rw [zNf h];exact d
 have o:=zNe h a d
 have h2:j < s.l[i].l.length:=by rw [zNf o];exact e
 have p:=zNe o h2 e
 have b:n < s.l[i].l[j].l.length:=by rw [zNf p];exact g
 have q:=zNe p b g
 have t:s.l[i].l[j].l[n].l.length=L[j].l.length:=by rw [q,zNa,jH]
 have c:m < s.l[i].l[j].l[n].l.length:=by rw [t];exact k
 refine ⟨a,h2,b,c,?_⟩
 have r:(s.l[i].l[j].l[n].l)[m]?=(zNa f L[i].l[n] L[j])[m]?:=by rw [q]
 rw [qX c,zNa,yC,qX k] at r
 exact Option.some.inj r
def BSS (st:BSt) (be:Sl Int) (m:Int) (fo:Bool):Prop:=match st with
 | none=>fo=false
 | some (w,c)=>fo=true∧be.l=zs w∧m=c
theorem zNi {st:BSt} {be:Sl Int} {m c:Int} {fo:Bool} (h:BSS st be m fo):(fo && decide (m≤c))=cut st c:=by
 cases st with
 | none=>rw [show fo=false from h];rfl
 | some s =>
  obtain ⟨w',a⟩:=s
  obtain ⟨rfl,-,rfl⟩:=h
  rw [cut,qp]
def skC (x:DHarbour) (L:Sl (Sl DOption)) (cx:Sl (Sl (Sl (Sl Bool)))) (rs be:Sl Int) (m:Int) (fo:Bool):List Value:=[.int .i64 x.forecast.tide.mean,x.forecast.tide.parts.val,x.forecast.surges.val,x.chart.points.val,x.chart.segments.val,x.fleet.val,.int .i64 x.regime.gap,.bool x.regime.noMeet,.int .i64 x.crew.tugs,.int .i64 x.crew.pilots,.int .i64 x.crew.rest,x.crew.moves.val,L.val,cx.val,rs.val,be.val,.int .i64 m,.bool fo]
structure SK (hb h:Hp) (b:Nat) (x:DHarbour) (L:Sl (Sl DOption)) (cx:Sl (Sl (Sl (Sl Bool)))) (rs be:Sl Int) (m:Int) (fo:Bool):Prop where
 le:hb.le h
 ox:jD hb x
 oL:L.Ok hb
 oc:cx.Ok hb
 ors:rs.Ok hb
 nb:hb b=none
 bx:h b=some (.cells (skC x L cx rs be m fo).toArray 258 (0,0))
 rb:RowF 3 hb h b be
section
variable {hb h h2:Hp} {b:Nat} {x:DHarbour} {L:Sl (Sl DOption)} {cx:Sl (Sl (Sl (Sl Bool)))} {rs be be':Sl Int} {m m':Int} {fo fo':Bool}
theorem zNj (H:h b=some (.cells (skC x L cx rs be m fo).toArray 258 (0,0))):h.lds (some ⟨b,3,none⟩) 2=some [x.chart.points.val,x.chart.segments.val]∧h.lds (some ⟨b,5,none⟩) 1=some [x.fleet.val]∧h.lds (some ⟨b,8,none⟩) 4=some [.int .i64 x.crew.tugs,.int .i64 x.crew.pilots,.int .i64 x.crew.rest,x.crew.moves.val]∧h.lds (some ⟨b,12,none⟩) 1=some [L.val]∧h.lds (some ⟨b,13,none⟩) 1=some [cx.val]∧h.lds (some ⟨b,14,none⟩) 1=some [rs.val]∧h.lds (some ⟨b,15,none⟩) 1=some [be.val]∧h.lds (some ⟨b,16,none⟩) 1=some [.int .i64 m]∧h.lds (some ⟨b,17,none⟩) 1=some [.bool fo]:=by
 unfold skC at H
 refine ⟨?_,?_,?_,?_,?_,?_,?_,?_,?_⟩ <;> exact zzg H rfl (by simp)
theorem SK.nbx (H:SK hb h b x L cx rs be m fo):h b ≠ none:=by rw [H.bx];exact fun e=>by cases e
theorem SK.grow (H:SK hb h b x L cx rs be m fo) (a:h.le h2):SK hb h2 b x L cx rs be m fo :=
 ⟨jB H.le a,H.ox,H.oL,H.oc,H.ors,H.nb,a _ _ H.bx,H.rb.grow a⟩
theorem SK.mk2 (H:SK hb h b x L cx rs be m fo) (c:hb.le h2) (d:RowF 3 hb h2 b be') :
  SK hb (h2.ins b (.cells (skC x L cx rs be' m' fo').toArray 258 (0,0))) b x L cx rs be' m' fo':=by
 refine ⟨fun k o a=>?_,H.ox,H.oL,H.oc,H.ors,H.nb,qD,d.ins⟩
 rw [JJ (fun e=>by subst e;rw [H.nb] at a;cases a)]
 exact c k o a
end
theorem zNk {h:Hp} {b:Nat}:(h.del b).le h:=fun k o a=>by
 simp only [Hp.del] at a
 split at a
 ·cases a
 ·exact a
theorem zNl {h h2:Hp} {b:Nat} (d:∀ k o,h k=some o→¬ k=b→h2 k=some o):(h.del b).le (h2.del b):=fun k o a=>by
 simp only [Hp.del] at a ⊢
 split at a
 ·cases a
 ·rename_i c;rw [if_neg c];exact d k o a c
theorem RowF.del {α:Type} [Enc α] {e:TypeId} {hb h:Hp} {b:Nat} {s:Sl α} (H:RowF e hb h b s):RowAt e (h.del b) s:=H.1.keep fun g a=>by
 simp only [Hp.del]
 rw [if_neg (H.2 g a).2]
def PR (L:List (Sl DOption)) (pn:List Nat) (p:List DOption):Prop:=p.length=pn.length∧∀ i (hi:i < pn.length) (hi2:i < p.length),∃ (h1:i < L.length) (h2:pn[i] < L[i].l.length),p[i]=L[i].l[pn[i]]
theorem PR.snoc {L:List (Sl DOption)} {a:List Nat} {p:List DOption} (H:PR L a p) {n:Nat} (c:a.length < L.length) (h2:n < L[a.length].l.length):PR L (a ++ [n]) (p ++ [L[a.length].l[n]]):=by
 refine ⟨by rw [jP,jP,H.1];rfl,fun i d b=>?_⟩
 rw [jP,jg] at d b
 rcases wv i a.length with h|h
 ·obtain ⟨e,f,g⟩:=H.2 i h (by rw [H.1];exact h)
  refine ⟨e,?_,?_⟩
  ·rw [yH h];exact f
  ·rw [yH (by rw [H.1];exact h),g]
   simp only [yH h]
 ·obtain rfl:i=a.length:=by omega
  refine ⟨c,?_,?_⟩
  ·simpa using h2
  ·have j:(p ++ [L[a.length].l[n]])[a.length]'(by rw [jP,H.1,jg];omega)=L[a.length].l[n]:=by
    rw [uC (by rw [H.1];exact qV _)]
    simp
   rw [j]
   simp
theorem zNm {l:List POption} (h:∀ y ∈ l,0≤y.cost∧y.cost≤2880):0≤sumC l∧sumC l≤2880 * l.length:=by
 induction l with
 | nil=>simp [sumC]
 | cons o l a =>
  obtain ⟨c,d⟩:=h o (qC ..)
  obtain ⟨f,g⟩:=a fun y b=>h y (qg _ b)
  have e:sumC (o :: l)=o.cost+sumC l:=by simp [sumC]
  rw [e,qv]
  push_cast
  omega
noncomputable def zNn (x:PHarbour) (L:List (List POption)) (l p:List POption) (ch:List Nat) (st:BSt) (k:Nat):BSt:=if zK6 x p (l.getD k zGU)=true then srS x L (p ++ [l.getD k zGU]) (ch ++ [k]) st else st
set_option maxRecDepth 30000 in
theorem zNo (hb:Hp) (b:Nat) (x:DHarbour) (L:Sl (Sl DOption)) (cx:Sl (Sl (Sl (Sl Bool)))) (rs:Sl Int) (dw:L.l.length≤6) (a8:∀ l ∈ L.l,l.l.length≤90) (br:∀ l ∈ L.l,∀ y ∈ l.l,0≤y.cost∧y.cost≤2880∧Sz.sz (jK y)≤8)
  (cm:con4 cx=zNd (cl x) L.l) (dx:rs.l.length=L.l.length+1) (co:∀ i (Z:i < rs.l.length),rs.l[i]=zMC ((LL L).drop i)) (cp:∀ i,0≤zMC ((LL L).drop i)∧zMC ((LL L).drop i)≤100000) :
  ∀ (f:Nat) (a:List Nat) (p:List DOption) (d be:Sl Int) (m:Int) (fo:Bool) (st:BSt) (h:Hp),SK hb h b x L cx rs be m fo→BSS st be m fo→d.Ok (h.del b)→d.l=zs a→a.length+f=L.l.length→PR L.l a p →
   Cw jV 212 [.pointer (some ⟨b,0,none⟩),d.val,.int .i64 (sumC (p.map jK))] h (fun k=>k=b) fun v h'=>∃ (be':Sl Int) (m':Int) (fo':Bool),SK hb h' b x L cx rs be' m' fo'∧BSS (srS (jK x) ((LL L).drop a.length) (p.map jK) a st) be' m' fo':=by
 intro f
 induction f using JP with
 | _ f ih =>
 intro a p d be m fo st h H X bg ag dt hp
 obtain ⟨q3,q5,q8,F,G,J,K,N,O⟩:=zNj H.bx
 have hx:=jL H.le H.ox
 have ah:=H.oL.mono H.le
 have dy:=ah.max
 have bt:=H.ors.mono H.le
 have cok:=bg.mono zNk
 have ap:d.l.length=a.length:=by rw [ag,zJd]
 have cq:=hp.1
 have bh:∀ y ∈ p,0≤y.cost∧y.cost≤2880∧Sz.sz (jK y)≤8:=fun y r=>by
  obtain ⟨i,Z,rfl⟩:=qL r
  obtain ⟨a1,a2,a3⟩:=hp.2 i (by omega) Z
  rw [a3]
  exact br _ (qd a1) _ (qd a2)
 have dz:0≤sumC (p.map jK)∧sumC (p.map jK)≤2880 * p.length:=by
  have:=zNm (l:=p.map (jK (α:=DOption))) fun y r=>by
   obtain ⟨z,hz,rfl⟩:=List.mem_map.1 r
   exact ⟨(bh z hz).1,(bh z hz).2.1⟩
  rwa [jH] at this
 have bd:a.length < rs.l.length:=by omega
 have cd:(a.length:Int) < rs.l.length:=by omega
 have cr:=co _ bd
 have du:=cp a.length
 have ct:IntKind.i64.wrap (sumC (p.map (jK (α:=DOption)))+rs.l[a.length])=sumC (p.map jK)+zMC ((LL L).drop a.length):=by rw [cr,zjz (by omega)]
 refine zlK (fun A W=>by simp) Tryz.func212 rfl rfl (by simp)  (fun k D=>by rw [D];exact H.nbx) fun W0 hW=>?_
 have own:W0.own b:=hW b rfl
 repeat' first|refine Wa ?_|(simp only [go_sem,jq,jj,jy,jv,jk,jx,ap];try rfl)|refine Wb ?_|fail
 refine zz5 rfl ?_
 refine U_t [0,1,2,3,4,5,6,10,14,7,15,8,16,9,17,11,12,13,18,19] rfl ?_
 simp only [go_sem,jq,jj,jy,jv,jk,jx,q3,q5,q8,F,G,J,K,N,O,true_or,JA,JB,Jg,bt.some bd,atI bt bd,bd,cd,ct,jW,jY]
 refine U_d ?_
 have bi:=zNi (c:=sumC (p.map jK)+zMC ((LL L).drop a.length)) X
 refine zc9 rfl (fun hq=>?_) (fun hq=>?_)
 ·rw [bi] at hq
  refine Wk ?_
  refine ⟨be,m,fo,H,?_⟩
  have hs:srS (jK x) ((LL L).drop a.length) (p.map jK) a st=st:=by
   cases hc:(LL L).drop a.length with
   | nil=>rw [hc,zMC,Int.add_zero] at hq;rw [srS,if_pos hq]
   | cons l M=>rw [hc] at hq;rw [srS,if_pos hq]
  rw [hs]
  exact X
 rw [bi] at hq
 repeat' first|refine Wa ?_|(simp only [go_sem,jq,jj,jy,jv,jk,jx,q3,q5,q8,F,G,J,K,N,O,true_or,JA,JB,Jg];try rfl)|refine Wb ?_|fail
 refine zc9 rfl (fun r=>?_) (fun r=>?_)
 ·have r:a.length=L.l.length:=by have:=eq_of_beq r;omega
  have bj:(LL L).drop a.length=[]:=Jf (by rw [LL,jH];omega)
  rw [bj,zMC,Int.add_zero] at hq
  have hs:srS (jK x) ((LL L).drop a.length) (p.map jK) a st=if zKb (jK x).crew (jK x).chart (jK x).fleet (zKB (p.map jK))=true then some (a,sumC (p.map jK)) else st:=by
   rw [bj,srS,if_neg (by rw [hq];exact qa)]
  rw [hs]
  refine Wk ?_
  refine zng (ι:=Nat) (fun k=>⟨[(0,true,.c (.v (.pointer (some ⟨b,0,none⟩)))),(1,true,.c (.v d.val)),(2,true,.c (.v (.int .i64 (sumC (p.map (jK (α:=DOption))))))),(6,true,.c (.v (.int .i64 a.length))),(7,true,.c (.s 0)),(45,true,.c (.v d.val)),(46,true,.c (.v (.int .i64 a.length))),(47,true,.c (.v (.int .i64 k)))],[(0,.row 84 4 k ((p.take k).flatMap qx))],h,1⟩) (fun k=>k≤a.length) (fun k=>a.length - k) 0 (jC _) [0] ?_ ?_
  ·simp only [go_sem,jq,jj,jy,jv,jk,jx,ap]
   exact Gk
  intro k D
  refine Wk ?_
  refine zc9 rfl (fun hd=>?_) (fun hd=>?_)
  ·have w:k < a.length:=zjH hd
   have R:k < d.l.length:=by omega
   have ce:(k:Int) < d.l.length:=by omega
   obtain ⟨a1,a2,a3⟩:=hp.2 k w (by omega)
   have cu:(k:Int) < L.l.length:=by omega
   have cw:(a[k]:Int) < L.l[k].l.length:=by omega
   have bk:d.l[k]=((a[k]:Nat):Int):=by simp only [ag,zs,qH]
   have bl:=ah.el a1
   have cy:p.take (k+1)=p.take k ++ [L.l[k].l[a[k]]]:=by rw [qw (by omega),a3]
   repeat' first|refine Wa ?_|(simp only [go_sem,jq,jj,jy,jv,jk,jx,q3,q5,q8,F,G,J,K,N,O,true_or,JA,JB,Jg,zkR cok R,cok.some R,R,ce,bk,zkQ ah a1,ah.some a1,a1,cu,zkZ bl a2,Sl.Ok.some bl a2,a2,cw,jW,jY,JC];try rfl)|refine Wb ?_|fail
   refine ⟨by simp only [maxLen];omega,by omega,?_⟩
   refine Wk ?_
   refine ⟨k+1,[2],w,by omega,?_⟩
   refine Evs ?_
   rw [cy,jF]
   exact Gi (zjA w (by omega))
  have cz:=zjI hd
  obtain rfl:k=a.length:=by omega
  rw [qy (by omega)]
  have cf:∀ y ∈ p,jD h y:=fun y r=>by
   obtain ⟨i,Z,rfl⟩:=qL r
   obtain ⟨a1,a2,a3⟩:=hp.2 i (by omega) Z
   rw [a3]
   exact Sl.Ok.el (ah.el a1) a2
  refine zc6 ?_
  refine Evs ?_
  refine zjQ 0 p rfl rfl cq.symm rfl (by decide) cf fun s h' e1 e2 e3 _ _=>?_
  have bu:jK s=p.map jK:=by rw [show jK s=s.l.map jK from rfl,e1]
  have bv:Sz.sz (jK s)≤1048576:=by
   rw [bu]
   have:=zHr (l:=p.map (jK (α:=DOption))) (k:=8) fun y r=>by
    obtain ⟨z,hz,rfl⟩:=List.mem_map.1 r
    exact (bh z hz).2.2
   rw [jH] at this
   omega
  have da:Sz.sz (zKB (jK s))≤1048576:=zKF _ bv
  have db:=(H.grow e3).bx
  obtain ⟨q3,q5,q8,F,G,J,K,N,O⟩:=zNj db
  refine Wk ?_
  refine zz5 rfl ?_
  refine U_t [0,5,10,15,1,6,11,2,7,12,3,8,13,4,9,14] rfl ?_
  simp only [go_sem,jq,jj,jy,jv,jk,jx,q3,q5,q8,F,G,J,K,N,O,true_or,JA,JB,Jg]
  refine U_1 16 0 [14,9,4,13,8,3,12,7,2,11,6,1] rfl rfl ?_
  simp only [go_sem,jq,jj,jy,jv,jk,jx,q3,q5,q8,F,G,J,K,N,O,true_or,JA,JB,Jg]
  refine zkr (zKE s h' e2 bv) rfl ?_
  rintro v h2 ai ⟨c2,rfl,bw,cg,d5⟩
  have dc:=(H.grow (jB e3 ai)).bx
  obtain ⟨q3,q5,q8,F,G,J,K,N,O⟩:=zNj dc
  simp only [go_sem,jq,jj,jy,jv,jk,jx,q3,q5,q8,F,G,J,K,N,O,true_or,JA,JB,Jg]
  refine U_1 17 0 [] rfl rfl ?_
  simp only [go_sem,jq,jj,jy,jv,jk,jx,q3,q5,q8,F,G,J,K,N,O,true_or,JA,JB,Jg]
  refine zhF (fun _=>zKr x.crew x.chart x.fleet c2 _ (jL (jB e3 ai) hx.2.2.2.2) (jL (jB e3 ai) hx.2.1) (Sl.Ok.mono (jB e3 ai) hx.2.2.1) cg (by rw [bw];exact da)) ?_
  refine Evs ?_
  refine U_d ?_
  have bz:zKb (jK x).crew (jK x).chart (jK x).fleet (zKB (p.map jK))=zKb (jK x.crew) (jK x.chart) x.fleet.l (zKB (p.map jK)):=by
   rw [show (jK x).fleet=x.fleet.l from zBi _];rfl
  rw [bw,bu,zBi]
  refine zc9 rfl (fun hz=>?_) (fun hz=>?_)
  ·rw [if_pos (bz.trans hz)]
   have H2:=H.grow (jB e3 ai)
   have aj:h2.ldL d.val 1=some (d.l.flatMap qx):=((cok.mono e3).mono ai).all (by decide)
   have ci:d.l.length≤6:=by omega
   first|refine zzr [0,0,0,2,0,0,1] rfl ?_|refine zzq [0,0,0,2,0,0,1] rfl ?_|(refine zc3 ?_;first|refine zzr [0,0,0,2,0,0,1] rfl ?_|refine zzq [0,0,0,2,0,0,1] rfl ?_)
   refine Evs ?_
   simp only [aj,jX,jc,jb]
   refine ⟨trivial,fun u hu=>?_,by simp only [maxLen];omega,by omega,fun t cap h3 P=>⟨.inl trivial,?_⟩⟩
   ·rw [zEd] at hu
    obtain ⟨y,_,rfl⟩:=List.mem_map.1 hu
    rfl
   have Y:Pub h2 3 (wA Int) d.l.length (d.l.flatMap qx) t cap h3:=P
   obtain ⟨R3,b7,d7⟩:=Y.row
   have H3:=H2.grow Y.le
   have rq:RowF 3 hb h3 b (Sl.mk t cap d.l):=⟨R3,fun g hg=>⟨znR H2.le (b7 g hg),fun e=>H2.nbx (by rw [← e];exact b7 g hg)⟩⟩
   refine zMY (xs':=skC x L cx rs (Sl.mk t cap d.l) m fo) (by simp only [go_sem]) (by simp only [go_sem]) rfl rfl H3.bx (.inr own) (by simp [skC]) rfl ?_
   first|refine zzr [0,0,0,0,1] rfl ?_|refine zzq [0,0,0,0,1] rfl ?_|(refine zc3 ?_;first|refine zzr [0,0,0,0,1] rfl ?_|refine zzq [0,0,0,0,1] rfl ?_)
   refine Evs ?_
   refine ⟨.inl trivial,?_⟩
   refine zMY (xs':=skC x L cx rs (Sl.mk t cap d.l) (sumC (p.map jK)) fo) (by simp only [go_sem]) (by simp only [go_sem]) rfl rfl qD (.inr own) (by simp [skC]) rfl ?_
   first|refine zzr [0,0,0,1] rfl ?_|refine zzq [0,0,0,1] rfl ?_|(refine zc3 ?_;first|refine zzr [0,0,0,1] rfl ?_|refine zzq [0,0,0,1] rfl ?_)
   refine Evs ?_
   refine ⟨.inl trivial,?_⟩
   refine zMY (xs':=skC x L cx rs (Sl.mk t cap d.l) (sumC (p.map jK)) true) (by simp only [go_sem]) (by simp only [go_sem]) rfl rfl qD (.inr own) (by simp [skC]) rfl ?_
   rw [qf,qf]
   refine Wk ?_
   exact ⟨Sl.mk t cap d.l,_,true,SK.mk2 H3 H3.le rq,rfl,ag,rfl⟩
  ·rw [if_neg (by rw [bz,hz];exact qa)]
   refine Wk ?_
   exact ⟨be,m,fo,H.grow (jB e3 ai),X⟩
 have r:¬ (a.length=L.l.length):=by have:=ne_of_beq_false r;omega
 have Z:a.length < L.l.length:=by omega
 have de:(a.length:Int) < L.l.length:=by omega
 refine zc5 ?_
 refine Evs ?_
 repeat' first|refine Wa ?_|(simp only [go_sem,jq,jj,jy,jv,jk,jx,q3,q5,q8,F,G,J,K,N,O,true_or,JA,JB,Jg,zkQ ah Z,ah.some Z,Z,de,jW,jY,JC];try rfl)|refine Wb ?_|fail
 have ak:L.l[a.length] ∈ L.l:=qd Z
 have bm:=a8 _ ak
 have hs:srS (jK x) ((LL L).drop a.length) (p.map jK) a st=(wg L.l[a.length].l.length).foldl (zNn (jK x) ((LL L).drop (a.length+1)) (L.l[a.length].l.map jK) (p.map jK) a) st:=by
  rw [zM1 Z] at hq ⊢
  rw [srS,if_neg (by rw [hq];exact qa),jH]
  rfl
 rw [hs]
 refine zFU (ι:=Nat × Hp × Sl Int × Int × Bool) (fun i=>⟨[(0,true,.c (.v (.pointer (some ⟨b,0,none⟩)))),(1,true,.c (.v d.val)),(2,true,.c (.v (.int .i64 (sumC (p.map (jK (α:=DOption))))))),(6,true,.c (.v (.int .i64 a.length))),(103,true,.c (.v L.l[a.length].val)),(104,true,.c (.v (.int .i64 L.l[a.length].l.length))),(105,true,.c (.v (.int .i64 i.1)))],[],i.2.1,0⟩) (fun i=>i.1≤L.l[a.length].l.length∧SK hb i.2.1 b x L cx rs i.2.2.1 i.2.2.2.1 i.2.2.2.2∧BSS ((wg i.1).foldl (zNn (jK x) ((LL L).drop (a.length+1)) (L.l[a.length].l.map jK) (p.map jK) a) st) i.2.2.1 i.2.2.2.1 i.2.2.2.2∧(h.del b).le (i.2.1.del b)) (fun i=>L.l[a.length].l.length - i.1) (0,h,be,m,fo) ⟨jC _,H,X,wW _⟩ [] ?_ ?_
 ·simp only [go_sem,jq,jj,jy,jv,jk,jx,ap]
  exact Gk
 rintro ⟨n,D,au,m1,av⟩ ⟨df,Q,an,ao⟩
 simp only at df Q an ao
 obtain ⟨q3,q5,q8,F,G,J,K,N,O⟩:=zNj Q.bx
 have dg:=bg.mono ao
 have aa:=dg.mono zNk
 have dh:=Q.oL.mono Q.le
 refine Wk ?_
 refine zc9 rfl (fun hd=>?_) (fun hd=>?_)
 ·have w:=zjH hd
  have b8:=dh.el Z
  have di:=br _ ak _ (qd w)
  repeat' first|refine Wa ?_|(simp only [go_sem,jq,jj,jy,jv,jk,jx,zkZ b8 w,Sl.Ok.some b8 w,w,jW];try rfl)|refine Wb ?_|fail
  refine zFU (ι:=Nat) (fun k=>⟨[(0,true,.c (.v (.pointer (some ⟨b,0,none⟩)))),(1,true,.c (.v d.val)),(2,true,.c (.v (.int .i64 (sumC (p.map (jK (α:=DOption))))))),(6,true,.c (.v (.int .i64 a.length))),(10,true,.c (.v (.int .i64 n))),(11,true,.c (.p 0 0)),(12,true,.c (.v (.bool (!((p.take k).any fun q=>cl x L.l[a.length].l[n] q))))),(103,true,.c (.v L.l[a.length].val)),(104,true,.c (.v (.int .i64 L.l[a.length].l.length))),(105,true,.c (.v (.int .i64 n))),(110,true,.c (.v d.val)),(111,true,.c (.v (.int .i64 a.length))),(112,true,.c (.v (.int .i64 k)))],[(0,.box 84 [.v (.int .i64 L.l[a.length].l[n].start),.v (.int .i64 L.l[a.length].l[n].arr),.v (.int .i64 L.l[a.length].l[n].cost),.v L.l[a.length].l[n].pas.val])],D,1⟩) (fun k=>k≤a.length) (fun k=>a.length - k) 0 (jC _) [0] ?_ ?_
  ·simp only [go_sem,jq,jj,jy,jv,jk,jx,ap]
   exact Gk
  intro k d8
  refine Wk ?_
  refine zc9 rfl (fun bn=>?_) (fun bn=>?_)
  ·have al:k < a.length:=zjH bn
   have R:k < d.l.length:=by omega
   obtain ⟨a1,a2,a3⟩:=hp.2 k al (by omega)
   have bk:d.l[k]=((a[k]:Nat):Int):=by simp only [ag,zs,qH]
   obtain ⟨c1,c2,c3,c4,c5⟩:=zNh cm Z a1 w a2
   have bp:=Q.oc.mono Q.le
   have az:=bp.el c1
   have a7:=Sl.Ok.el az c2
   have bq:=Sl.Ok.el a7 c3
   have dj:(a.length:Int) < cx.l.length:=by omega
   have dk:(k:Int) < cx.l[a.length].l.length:=by omega
   have dm:(n:Int) < cx.l[a.length].l[k].l.length:=by omega
   have dn:(a[k]:Int) < cx.l[a.length].l[k].l[n].l.length:=by omega
   repeat' first|refine Wa ?_|(simp only [go_sem,jq,jj,jy,jv,jk,jx,q3,q5,q8,F,G,J,K,N,O,true_or,JA,JB,Jg,zkR aa R,aa.some R,R,bk,zkQ bp c1,bp.some c1,c1,dj,zkQ az c2,Sl.Ok.some az c2,c2,dk,zkQ a7 c3,Sl.Ok.some a7 c3,c3,dm,zC1 bq c4,Sl.Ok.some bq c4,c4,dn,c5,jW,jY,JC];try rfl)|refine Wb ?_|fail
   refine zc9 rfl (fun hz=>?_) (fun hz=>?_)
   ·refine Wk ?_
    refine ⟨k+1,[0],al,by omega,?_⟩
    refine Evs ?_
    rw [zCr (by omega),a3,hz,uw]
    exact Gi (zjA al (by omega))
   ·refine Wk ?_
    refine ⟨k+1,[0],al,by omega,?_⟩
    refine Evs ?_
    rw [zCr (by omega),a3,hz,wC]
    exact Gi (zjA al (by omega))
  have dv:=zjI bn
  obtain rfl:k=a.length:=by omega
  rw [qy (by omega)]
  refine Wk ?_
  obtain ⟨o,ho⟩:∃ o,L.l[a.length].l[n]=o:=⟨_,rfl⟩
  have dp:(L.l[a.length].l.map (jK (α:=DOption))).getD n zGU=jK o:=by simp [ja,w,ho]
  have ae:zK6 (jK x) (p.map jK) (jK o)=!(p.any fun q=>cl x o q):=by
   rw [zMN]
   congr 2
   funext q
   rw [cl,zK5]
  have X:∀ bf,zNn (jK x) ((LL L).drop (a.length+1)) (L.l[a.length].l.map jK) (p.map jK) a bf n=if zK6 (jK x) (p.map jK) (jK o)=true then srS (jK x) ((LL L).drop (a.length+1)) (p.map jK ++ [jK o]) (a ++ [n]) bf else bf:=fun bf=>by rw [zNn,dp]
  have aq:=hp.snoc Z w
  rw [ho] at di aq ⊢
  refine zc9 rfl (fun hf=>?_) (fun hf=>?_)
  ·have cj:sumC ((p ++ [o]).map jK)=sumC (p.map jK)+o.cost:=by rw [qB,wx,yD,zMt];rfl
   have j:IntKind.i64.wrap (sumC (p.map (jK (α:=DOption)))+o.cost)=sumC ((p ++ [o]).map jK):=by rw [cj,zjz (by omega)]
   have aj:D.ldL d.val 1=some (d.l.flatMap qx):=aa.all (by decide)
   have ci:d.l.length≤6:=by omega
   refine Wk ?_
   refine zFT (ι:=Hp × Sl Int × Int × Bool) (fun i=>⟨[(0,true,.c (.v (.pointer (some ⟨b,0,none⟩)))),(1,true,.c (.v d.val)),(2,true,.c (.v (.int .i64 (sumC (p.map (jK (α:=DOption))))))),(6,true,.c (.v (.int .i64 a.length))),(103,true,.c (.v L.l[a.length].val)),(104,true,.c (.v (.int .i64 L.l[a.length].l.length))),(105,true,.c (.v (.int .i64 n)))],[],i.1,0⟩) (fun i=>SK hb i.1 b x L cx rs i.2.1 i.2.2.1 i.2.2.2∧BSS ((wg (n+1)).foldl (zNn (jK x) ((LL L).drop (a.length+1)) (L.l[a.length].l.map jK) (p.map jK) a) st) i.2.1 i.2.2.1 i.2.2.2∧(h.del b).le (i.1.del b)) (fun _=>rfl) ?_ ?_
   ·refine zz5 rfl ?_
    refine U_t [0,2,4,7,8,9,10] rfl ?_
    simp only [go_sem,jq,jj,jy,jv,jk,jx,j]
    refine U_m 1 [5] ⟨?_,?_,trivial⟩
    ·refine U_b 1 0 [10,9,8] rfl rfl ?_
     simp only [go_sem,jq,jj,jy,jv,jk,jx,j]
     refine U_m 3 [5] ⟨?_,?_,trivial⟩
     ·refine U_b 3 0 [10,9,8] rfl rfl ?_
      simp only [go_sem,jq,jj,jy,jv,jk,jx,j]
      simp only [aj,jX,jc]
      refine ⟨trivial,fun u hu=>?_,by simp only [maxLen];omega,by omega,?_⟩
      ·rw [zEd] at hu
       obtain ⟨y,_,rfl⟩:=List.mem_map.1 hu
       rfl
      try simp only [go_sem,jq,jj,jy,jv,jk,jx,j]
      refine U_1 5 0 [10,9,8] rfl rfl ?_
      simp only [go_sem,jq,jj,jy,jv,jk,jx,j]
      refine U_1 6 2 [10,9,8] rfl rfl ?_
      simp only [go_sem,jq,jj,jy,jv,jk,jx,j]
      refine ⟨by simp only [maxLen];omega,by omega,fun t cap h2 P=>?_⟩
      have Y:Pub D 3 (wA Int) (d.l ++ [(n:Int)]).length ((d.l ++ [(n:Int)]).flatMap qx) t cap h2:=by
       rw [jP,jF];rw [jb] at P;exact P
      obtain ⟨R2,ab,b9⟩:=Y.row
      have H2:=Q.grow Y.le
      have rq:RowF 3 hb h2 b (Sl.mk t cap (d.l ++ [(n:Int)])):=⟨R2,fun g hg=>⟨znR Q.le (ab g hg),fun e=>Q.nbx (by rw [← e];exact ab g hg)⟩⟩
      have bm:=a8 _ ak
      have am:(Sl.mk t cap (d.l ++ [(n:Int)])).Ok (h2.del b):=RowAt.ok (s:=Sl.mk t cap (d.l ++ [(n:Int)])) (by decide) (rq.del) fun y r=>by
       rcases List.mem_append.1 r with r|r
       ·exact aa.2.2.2.1 y r
       ·rw [List.mem_singleton.1 r];show I64 _;unfold I64;omega
      rw [show Value.slice t (0+d.l.length+1) cap=(Sl.mk t cap (d.l ++ [(n:Int)])).val from by simp only [Sl.val,jP,jg,jb]]
      try simp only [go_sem,jq,jj,jy,jv,jk,jx,j]
      refine U_1 11 1 [] rfl rfl ?_
      simp only [go_sem,jq,jj,jy,jv,jk,jx,j]
      try refine ⟨rfl,?_⟩
      refine zlL (ih (f - 1) (by omega) (a ++ [n]) (p ++ [o]) (Sl.mk t cap (d.l ++ [(n:Int)])) au m1 av _ h2 H2 an am (by simp [ag,zs]) (by rw [jP,jg];omega) aq) rfl (fun k D=>by rw [D];exact ⟨H2.nbx,.inr own⟩) ?_
      rintro v h6 kp ⟨aw,m6,ax,H6,ac⟩
      try simp only [go_sem,jq,jj,jy,jv,jk,jx]
      refine U_d ?_
      refine ⟨(h6,aw,m6,ax),[],⟨H6,?_,jB ao (jB (zNl fun k o D _=>Y.le k o D) (zNl kp))⟩,?_⟩
      ·simp only
       try rw [yg]
       rw [yp,wH,uY,X,if_pos (by rw [ae];exact hf)]
       rw [show (a ++ [n]).length=a.length+1 by rw [jP,jg],qB,wx,yD] at ac
       exact ac
      refine Evs ?_
      exact Gk
     ·refine U_b 5 0 [10,9,8] rfl rfl ?_
      simp only [go_sem,jq,jj,jy,jv,jk,jx,j]
      refine U_1 3 0 [10,9,8] rfl rfl ?_
      simp only [go_sem,jq,jj,jy,jv,jk,jx,j]
      simp only [aj,jX,jc]
      refine ⟨trivial,fun u hu=>?_,by simp only [maxLen];omega,by omega,?_⟩
      ·rw [zEd] at hu
       obtain ⟨y,_,rfl⟩:=List.mem_map.1 hu
       rfl
      try simp only [go_sem,jq,jj,jy,jv,jk,jx,j]
      refine U_1 6 2 [10,9,8] rfl rfl ?_
      simp only [go_sem,jq,jj,jy,jv,jk,jx,j]
      refine ⟨by simp only [maxLen];omega,by omega,fun t cap h2 P=>?_⟩
      have Y:Pub D 3 (wA Int) (d.l ++ [(n:Int)]).length ((d.l ++ [(n:Int)]).flatMap qx) t cap h2:=by
       rw [jP,jF];rw [jb] at P;exact P
      obtain ⟨R2,ab,b9⟩:=Y.row
      have H2:=Q.grow Y.le
      have rq:RowF 3 hb h2 b (Sl.mk t cap (d.l ++ [(n:Int)])):=⟨R2,fun g hg=>⟨znR Q.le (ab g hg),fun e=>Q.nbx (by rw [← e];exact ab g hg)⟩⟩
      have bm:=a8 _ ak
      have am:(Sl.mk t cap (d.l ++ [(n:Int)])).Ok (h2.del b):=RowAt.ok (s:=Sl.mk t cap (d.l ++ [(n:Int)])) (by decide) (rq.del) fun y r=>by
       rcases List.mem_append.1 r with r|r
       ·exact aa.2.2.2.1 y r
       ·rw [List.mem_singleton.1 r];show I64 _;unfold I64;omega
      rw [show Value.slice t (0+d.l.length+1) cap=(Sl.mk t cap (d.l ++ [(n:Int)])).val from by simp only [Sl.val,jP,jg,jb]]
      try simp only [go_sem,jq,jj,jy,jv,jk,jx,j]
      refine U_1 11 1 [] rfl rfl ?_
      simp only [go_sem,jq,jj,jy,jv,jk,jx,j]
      try refine ⟨rfl,?_⟩
      refine zlL (ih (f - 1) (by omega) (a ++ [n]) (p ++ [o]) (Sl.mk t cap (d.l ++ [(n:Int)])) au m1 av _ h2 H2 an am (by simp [ag,zs]) (by rw [jP,jg];omega) aq) rfl (fun k D=>by rw [D];exact ⟨H2.nbx,.inr own⟩) ?_
      rintro v h6 kp ⟨aw,m6,ax,H6,ac⟩
      try simp only [go_sem,jq,jj,jy,jv,jk,jx]
      refine U_d ?_
      refine ⟨(h6,aw,m6,ax),[],⟨H6,?_,jB ao (jB (zNl fun k o D _=>Y.le k o D) (zNl kp))⟩,?_⟩
      ·simp only
       try rw [yg]
       rw [yp,wH,uY,X,if_pos (by rw [ae];exact hf)]
       rw [show (a ++ [n]).length=a.length+1 by rw [jP,jg],qB,wx,yD] at ac
       exact ac
      refine Evs ?_
      exact Gk
    ·refine U_b 5 0 [10,9,8] rfl rfl ?_
     simp only [go_sem,jq,jj,jy,jv,jk,jx,j]
     refine U_1 1 0 [10,9,8] rfl rfl ?_
     simp only [go_sem,jq,jj,jy,jv,jk,jx,j]
     refine U_1 3 0 [10,9,8] rfl rfl ?_
     simp only [go_sem,jq,jj,jy,jv,jk,jx,j]
     simp only [aj,jX,jc]
     refine ⟨trivial,fun u hu=>?_,by simp only [maxLen];omega,by omega,?_⟩
     ·rw [zEd] at hu
      obtain ⟨y,_,rfl⟩:=List.mem_map.1 hu
      rfl
     try simp only [go_sem,jq,jj,jy,jv,jk,jx,j]
     refine U_1 6 2 [10,9,8] rfl rfl ?_
     simp only [go_sem,jq,jj,jy,jv,jk,jx,j]
     refine ⟨by simp only [maxLen];omega,by omega,fun t cap h2 P=>?_⟩
     have Y:Pub D 3 (wA Int) (d.l ++ [(n:Int)]).length ((d.l ++ [(n:Int)]).flatMap qx) t cap h2:=by
      rw [jP,jF];rw [jb] at P;exact P
     obtain ⟨R2,ab,b9⟩:=Y.row
     have H2:=Q.grow Y.le
     have rq:RowF 3 hb h2 b (Sl.mk t cap (d.l ++ [(n:Int)])):=⟨R2,fun g hg=>⟨znR Q.le (ab g hg),fun e=>Q.nbx (by rw [← e];exact ab g hg)⟩⟩
     have bm:=a8 _ ak
     have am:(Sl.mk t cap (d.l ++ [(n:Int)])).Ok (h2.del b):=RowAt.ok (s:=Sl.mk t cap (d.l ++ [(n:Int)])) (by decide) (rq.del) fun y r=>by
      rcases List.mem_append.1 r with r|r
      ·exact aa.2.2.2.1 y r
      ·rw [List.mem_singleton.1 r];show I64 _;unfold I64;omega
     rw [show Value.slice t (0+d.l.length+1) cap=(Sl.mk t cap (d.l ++ [(n:Int)])).val from by simp only [Sl.val,jP,jg,jb]]
     try simp only [go_sem,jq,jj,jy,jv,jk,jx,j]
     refine U_1 11 1 [] rfl rfl ?_
     simp only [go_sem,jq,jj,jy,jv,jk,jx,j]
     try refine ⟨rfl,?_⟩
     refine zlL (ih (f - 1) (by omega) (a ++ [n]) (p ++ [o]) (Sl.mk t cap (d.l ++ [(n:Int)])) au m1 av _ h2 H2 an am (by simp [ag,zs]) (by rw [jP,jg];omega) aq) rfl (fun k D=>by rw [D];exact ⟨H2.nbx,.inr own⟩) ?_
     rintro v h6 kp ⟨aw,m6,ax,H6,ac⟩
     try simp only [go_sem,jq,jj,jy,jv,jk,jx]
     refine U_d ?_
     refine ⟨(h6,aw,m6,ax),[],⟨H6,?_,jB ao (jB (zNl fun k o D _=>Y.le k o D) (zNl kp))⟩,?_⟩
     ·simp only
      try rw [yg]
      rw [yp,wH,uY,X,if_pos (by rw [ae];exact hf)]
      rw [show (a ++ [n]).length=a.length+1 by rw [jP,jg],qB,wx,yD] at ac
      exact ac
     refine Evs ?_
     exact Gk
   rintro ⟨h7,dq,m7,dr⟩ ⟨H7,ca,cb⟩
   simp only at H7 ca cb
   refine Wk ?_
   refine ⟨(n+1,h7,dq,m7,dr),[],⟨w,H7,ca,cb⟩,by simp only;omega,?_⟩
   refine Evs ?_
   exact Gi (zjA w (by omega))
  ·refine Wk ?_
   refine ⟨(n+1,D,au,m1,av),[],⟨w,Q,?_,ao⟩,by simp only;omega,?_⟩
   ·simp only
    rw [yg,yp,wH,uY,X,if_neg (by rw [ae];exact fun e=>by rw [e] at hf;cases hf)]
    exact an
   refine Evs ?_
   exact Gi (zjA w (by omega))
 ·have cz:=zjI hd
  obtain rfl:n=L.l[a.length].l.length:=by omega
  refine Wk ?_
  exact ⟨au,m1,av,Q,an⟩
end Go.Proofs.YtbkaaakphpbmiaaGreat
