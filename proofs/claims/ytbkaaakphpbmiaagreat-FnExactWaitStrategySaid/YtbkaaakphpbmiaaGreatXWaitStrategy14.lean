/- What functions of the given program compute, as contracts. -/
import Derived.Test.YtbkaaakphpbmiaaGreatSWaitStrategyx2
import Derived.Test.YtbkaaakphpbmiaaGreatXWaitStrategy12
import Derived.Test.YtbkaaakphpbmiaaGreatXWaitStrategy13
import Derived.Test.YtbkaaakphpbmiaaGreatXWaitStrategy4
import Derived.Test.YtbkaaakphpbmiaaGreatXWaitStrategy7
import Derived.Test.YtbkaaakphpbmiaaGreatXWaitStrategy9
set_option linter.unusedVariables false
set_option linter.unusedSimpArgs false
set_option maxRecDepth 4000
open Nat renaming reduceAdd → jq, reduceMul → jj, reduceBEq → jy, reduceLeDiff → jv, reduceLT → jk, reduceEqDiff → jx, zero_add → jb, zero_le → jC, add_zero → qJ, le_refl → qV, not_lt_zero → qE, mul_one → wy, lt_or_ge → wv, eq_zero_or_pos → we, add_sub_cancel → uW, lt_of_le_of_lt → JK, sub_self → Je
open Bool renaming or_eq_false_iff → jp, or_eq_true → jQ, and_eq_true → jJ, not_eq_true' → jd, not_eq_false' → jf, true_and → qp, false_eq_true → qW, and_false → qP, false_ne_true → qa, false_and → qc, not_false → wq, not_true → wj, and_true → wJ, false_or → wa, or_false → wC, true_or → yw, or_true → uw
open Int renaming toNat_natCast → jW, natCast_nonneg → jY
open Go.SL.Con renaming con → jK
open Option renaming isSome_some → jX, map_some → qq
open List renaming length_append → jP, getD_eq_getElem?_getD → ja, length_singleton → jg, toList_toArray → jE, flatMap_append → jF, length_map → jH, length_cons → qv, length_nil → qY, size_toArray → qK, getElem?_eq_getElem → qX, getElem_mem → qd, mem_cons_of_mem → qg, map_append → qB, mem_cons_self → qC, getElem_of_mem → qL, length_take → ww, replicate → wQ, all_eq_true → wY, length_set → wc, range → wg, getElem?_append_left → wF, foldl_cons → wH, length_replicate → yV, mem_of_mem_drop → yA, length_range → uQ, getElem?_append_right → uJ, length_drop → ub, length → ud, ext_getElem → Jj, map_replicate → JV, drop_of_length_le → Jf
open Go.SL.Hp renaming le_trans → jB, ins_same → qD, le_refl → wW
open Go.SL.Enc renaming ok → jD, mono → jL, enc → qx, size → wA
open Go.SL.Foot renaming foot → qj
open Array renaming length_toList → uA
open Go.Proofs.Tryz renaming prog → jV
namespace Go.Proofs.YtbkaaakphpbmiaaGreat
open Go Go.SL
set_option maxHeartbeats 1000000
def zNp (LP:List (List POption)) (n i:Nat):List Int:=(wg (n+1)).map fun j=>if i≤j then zMC (LP.drop j) else 0
theorem zNq {LP:List (List POption)} {n i:Nat}:(zNp LP n i).length=n+1:=by rw [zNp,jH,uQ]
theorem zNr {LP:List (List POption)} {n i j:Nat} (a:j < (zNp LP n i).length):(zNp LP n i)[j]=if i≤j then zMC (LP.drop j) else 0:=by simp [zNp]
theorem zNs {LP:List (List POption)} {n:Nat} (a:LP.length=n):zNp LP n n=wQ (n+1) 0:=by
 refine Jj (by rw [zNq,yV]) fun j b h2=>?_
 rw [zNr,List.getElem_replicate]
 split
 ·rw [Jf (by omega),zMC]
 ·rfl
theorem zNt {LP:List (List POption)} {n i:Nat} (a:i < n):(zNp LP n (i+1)).set i (zMC (LP.drop i))=zNp LP n i:=by
 refine Jj (by rw [wc,zNq,zNq]) fun j b h2=>?_
 rw [List.getElem_set,zNr,zNr]
 by_cases e:i=j
 ·subst e;rw [if_pos rfl,if_pos (qV _)]
 ·rw [if_neg e]
  by_cases h:i≤j
  ·rw [if_pos h,if_pos (by omega)]
  ·rw [if_neg h,if_neg (by omega)]
theorem zNu {LP:List (List POption)} (h:∀ l ∈ LP,l ≠ []∧∀ y ∈ l,0≤y.cost∧y.cost≤2880):0≤zMC LP∧zMC LP≤2880 * LP.length:=by
 induction LP with
 | nil=>simp [zMC]
 | cons l LP a =>
  obtain ⟨d,f⟩:=a fun y b=>h y (qg _ b)
  obtain ⟨c,h2⟩:=h l (qC ..)
  have g:0≤flr l∧flr l≤2880:=by
   rcases zHj l with ⟨e,_⟩|⟨i,j⟩
   ·exact (c e).elim
   ·rw [flr,if_neg (by omega)]
    exact h2 _ (zMu (by omega))
  rw [zMC,qv]
  push_cast
  omega
theorem zNv {LP:List (List POption)} (h:∀ l ∈ LP,∀ y ∈ l,0≤y.cost∧y.cost≤2880):-(LP.length:Int)≤zMC LP∧zMC LP≤2880 * LP.length:=by
 induction LP with
 | nil=>simp [zMC]
 | cons l LP a =>
  obtain ⟨d,f⟩:=a fun y b=>h y (qg _ b)
  have h2:=h l (qC ..)
  have g:-1≤flr l∧flr l≤2880:=by
   rw [flr]
   rcases zHj l with ⟨e,c⟩|⟨c,i⟩
   ·rw [if_pos (by omega)];omega
   ·rw [if_neg (by omega)]
    have:=h2 _ (zMu (k:=(zAL l).toNat) (by omega))
    omega
  rw [zMC,qv]
  push_cast
  omega
theorem zNw {e:TypeId} {h:Hp} {s:Sl Int} {i:Nat} {u:Int} (H:RowAt e h s) (f:i < s.l.length) :
  ∃ g cur,s.a=some ⟨g,0,none⟩∧h g=some (.cells cur e (0,0))∧i+1≤cur.size∧RowAt e (h.ins g (.cells (spl i [.int .i64 u] cur.toList).toArray e (0,0))) ⟨s.a,s.cap,s.l.set i u⟩:=by
 obtain ⟨n,h2,⟨d,j,p⟩|⟨g,cur,d,o,k,b⟩⟩:=H
 ·rw [j] at f;cases f
 ·have c:wA Int=1:=rfl
  rw [c,wy] at k b
  refine ⟨g,cur,d,o,by omega,by rw [wc];exact n,h2,.inr ⟨g,_,d,qD,?_,?_⟩⟩
  ·have j:cur.toList.length=cur.size:=uA
   simp only [spl,zbG,qK,jP,ww,ub,qv,qY,c]
   omega
  ·rw [wc,c,wy,zEd,List.map_set]
   rw [zEd] at b
   have m:spl i [Value.int .i64 u] cur.toList=cur.toList.set i (.int .i64 u):=by
    unfold spl zbG
    exact zEb (by rw [uA];omega)
   rw [m,List.take_set,b]
theorem zNx {h:Hp} {s:Sl Int} {g:Nat} {o:Obj} (b:s.a=some ⟨g,0,none⟩):zD4 (h.ins g o) s=zD4 h s:=by
 funext k
 simp only [zD4,b,Hp.del,Hp.ins]
 split <;> rfl
theorem zNy {x:PHarbour}:∀ {L:List (List POption)} {p:List POption} {ch:List Nat} {st:BSt} {a:List Nat} {r2:Int},(∀ l ∈ L,l.length < 100)→(∀ y ∈ ch,y < 100)→(∀ a r2,st=some (a,r2)→∀ y ∈ a,y < 100)→srS x L p ch st=some (a,r2)→∀ y ∈ a,y < 100
 | [],p,ch,st,a,r2,i,c,b,h=>by
  rw [srS] at h
  split at h
  ·exact b _ _ h
  ·split at h
   ·cases h;exact c
   ·exact b _ _ h
 | l :: L,p,ch,st,a,r2,i,c,b,h=>by
  rw [srS] at h
  split at h
  ·exact b _ _ h
  ·have n:=i l (qC ..)
   have o:∀ (d:List Nat) (st:BSt),(∀ k ∈ d,k < 100)→(∀ a r2,st=some (a,r2)→∀ y ∈ a,y < 100)→∀ a r2,d.foldl (fun st k=>if zK6 x p (l.getD k zGU)=true then srS x L (p ++ [l.getD k zGU]) (ch ++ [k]) st else st) st=some (a,r2)→∀ y ∈ a,y < 100:=by
    intro d
    induction d with
    | nil=>intro st _ f a r2 h;exact f a r2 h
    | cons k d q =>
     intro st g f a r2 h
     rw [wH] at h
     refine q _ (fun j r=>g j (qg _ r)) (fun s t m=>?_) a r2 h
     split at m
     ·refine zNy (fun l n=>i l (qg _ n)) (fun y e=>?_) f m
      rcases List.mem_append.1 e with e|e
      ·exact c y e
      ·rw [List.mem_singleton.1 e];exact g k (qC ..)
     ·exact f s t m
   exact o _ st (fun k u=>by have:=List.mem_range.1 u;omega) b a r2 h
theorem zNz {x:PHarbour} {LP:List (List POption)} (h:[] ∈ LP):zMJ x LP=none:=by rw [zMJ,if_pos h]
theorem zNA {x:PHarbour} {LP:List (List POption)} (h:[] ∉ LP):zMJ x LP=srS x LP [] [] none:=by rw [zMJ,if_neg h]
set_option maxRecDepth 30000 in
theorem zNB (x:DHarbour) (L:Sl (Sl DOption)) (h:Hp) (hx:jD h x) (hL:L.Ok h) (ah:L.l.length≤6) (ac:∀ l ∈ L.l,l.l.length≤90) (au:∀ l ∈ L.l,∀ y ∈ l.l,0≤y.cost∧y.cost≤2880∧Sz.sz (jK y)≤8) (av:L.l ≠ []→zBp (jK x.chart)=true∧zBC x.regime=true) :
  Ct jV 133 [x.v,L.val] h fun v h'=>∃ s:Sl Int,v=.tuple #[s.val,.int .i64 (zML (zMJ (jK x) (LL L))).2.1,.bool (zML (zMJ (jK x) (LL L))).2.2]∧s.l=(zML (zMJ (jK x) (LL L))).1∧s.Ok h'∧Mine h h' s:=by
 have co:=hL.max
 have bp:(LL L).length=L.l.length:=by rw [LL,jH]
 have aw:∀ l ∈ LL L,∀ y ∈ l,0≤y.cost∧y.cost≤2880:=fun l G y D=>by
  obtain ⟨l',bq,rfl⟩:=List.mem_map.1 G
  obtain ⟨y',br,rfl⟩:=List.mem_map.1 D
  have:=au l' bq y' br
  exact ⟨this.1,this.2.1⟩
 have ai:∀ i,-6≤zMC ((LL L).drop i)∧zMC ((LL L).drop i)≤17280:=fun i=>by
  have:=zNv (LP:=(LL L).drop i) fun l G=>aw l (yA G)
  rw [ub] at this
  omega
 have f:IntKind.i64.wrap ((L.l.length:Int)+1)=((L.l.length+1:Nat):Int):=by rw [zjz (by omega)];rfl
 refine zdn (fun A W=>by simp) Tryz.func133 rfl rfl (by simp) fun W0=>?_
 refine Wk ?_
 refine zFS (ι:=Hp × Hp × Sl (Sl (Sl (Sl Bool))) × Sl Int) (fun t=>match t with|(h2,Q,H,d)=>⟨[(1,true,.c (.v L.val)),(4,true,.c (.v (.slice none 0 0))),(5,true,.c (.v (.int .i64 0))),(6,true,.c (.v (.bool false))),(7,true,.c (.p 0 0))],[(0,.box 258 [.v (.int .i64 x.forecast.tide.mean),.v x.forecast.tide.parts.val,.v x.forecast.surges.val,.v x.chart.points.val,.v x.chart.segments.val,.v x.fleet.val,.v (.int .i64 x.regime.gap),.v (.bool x.regime.noMeet),.v (.int .i64 x.crew.tugs),.v (.int .i64 x.crew.pilots),.v (.int .i64 x.crew.rest),.v x.crew.moves.val,.v L.val,.v H.val,.v d.val,.v (.slice none 0 0),.v (.int .i64 0),.v (.bool false)])],h2,1⟩) (fun t=>h.le t.2.1∧con4 t.2.2.1=zNd (cl x) L.l∧t.2.2.1.Ok t.2.1∧zD4 t.1 t.2.2.2=t.2.1∧RowAt 3 t.1 t.2.2.2∧t.2.2.2.l=wQ (L.l.length+1) (0:Int)) ?_ ?_
 ·refine zz5 rfl ?_
  refine U_t [0,1,2,3,5,6,7] rfl ?_
  simp only [go_sem,jq,jj,jy,jv,jk,jx,f]
  refine U_m 4 [8] ⟨?_,?_,trivial⟩
  ·refine U_b 4 0 [7,6,0] rfl rfl ?_
   simp only [go_sem,jq,jj,jy,jv,jk,jx,f]
   refine zkr (zNg x L _ hx hL ah ac av) rfl ?_
   rintro v Q o ⟨H,rfl,K,okc⟩
   try simp only [go_sem,jq,jj,jy,jv,jk,jx,f]
   refine U_1 8 0 [0] rfl rfl ?_
   simp only [go_sem,jq,jj,jy,jv,jk,jx,f]
   refine ⟨by simp only [maxLen];omega,by omega,?_⟩
   try simp only [go_sem,jq,jj,jy,jv,jk,jx,f]
   refine zFO 1 (wQ (L.l.length+1) (0:Int)) rfl rfl ?_ ?_ fun d h2 e1 R f1 l1 k1=>?_
   ·rw [yV]
   ·rw [zEd,JV]
    try rw [zj5]
   refine Evs ?_
   refine U_1 9 0 [] rfl rfl ?_
   simp only [go_sem,jq,jj,jy,jv,jk,jx,f]
   refine U_1 10 0 [] rfl rfl ?_
   simp only [go_sem,jq,jj,jy,jv,jk,jx,f]
   refine U_t [11] rfl ?_
   simp only [go_sem,jq,jj,jy,jv,jk,jx,f]
   refine U_d ?_
   refine ⟨(h2,Q,H,d),[2],⟨o,K,okc,?_,R,e1⟩,?_⟩
   ·funext k
    rcases Classical.em (∃ a,d.a=some a∧k=a.block) with ⟨a,F,m⟩|hn
    ·rw [m,zED F]
     have hb:=R.blk a F
     exact (f1 a.block (by rw [← hb];exact F)).symm
    ·rw [zEC (fun a F m=>hn ⟨a,F,m⟩)]
     exact k1 k fun g J m=>hn ⟨_,J,m⟩
   refine Evs ?_
   exact Gk
  ·refine U_b 8 0 [2,0] rfl rfl ?_
   simp only [go_sem,jq,jj,jy,jv,jk,jx,f]
   refine ⟨by simp only [maxLen];omega,by omega,?_⟩
   try simp only [go_sem,jq,jj,jy,jv,jk,jx,f]
   refine U_1 4 0 [0] rfl rfl ?_
   simp only [go_sem,jq,jj,jy,jv,jk,jx,f]
   refine zkr (zNg x L _ hx hL ah ac av) rfl ?_
   rintro v Q o ⟨H,rfl,K,okc⟩
   try simp only [go_sem,jq,jj,jy,jv,jk,jx,f]
   refine zFO 1 (wQ (L.l.length+1) (0:Int)) rfl rfl ?_ ?_ fun d h2 e1 R f1 l1 k1=>?_
   ·rw [yV]
   ·rw [zEd,JV]
    try rw [zj5]
   refine Evs ?_
   refine U_1 9 0 [] rfl rfl ?_
   simp only [go_sem,jq,jj,jy,jv,jk,jx,f]
   refine U_1 10 0 [] rfl rfl ?_
   simp only [go_sem,jq,jj,jy,jv,jk,jx,f]
   refine U_t [11] rfl ?_
   simp only [go_sem,jq,jj,jy,jv,jk,jx,f]
   refine U_d ?_
   refine ⟨(h2,Q,H,d),[2],⟨o,K,okc,?_,R,e1⟩,?_⟩
   ·funext k
    rcases Classical.em (∃ a,d.a=some a∧k=a.block) with ⟨a,F,m⟩|hn
    ·rw [m,zED F]
     have hb:=R.blk a F
     exact (f1 a.block (by rw [← hb];exact F)).symm
    ·rw [zEC (fun a F m=>hn ⟨a,F,m⟩)]
     exact k1 k fun g J m=>hn ⟨_,J,m⟩
   refine Evs ?_
   exact Gk
 rintro ⟨h2,Q,H,bt⟩ ⟨o,K,okc,aj,R0,ax⟩
 simp only at o K okc aj R0 ax
 have cp:Q.le h2:=by rw [← aj];exact zEA
 refine Wk ?_
 refine zFU (ι:=Nat × Hp × Sl Int) (fun t=>⟨[(1,true,.c (.v L.val)),(4,true,.c (.v (.slice none 0 0))),(5,true,.c (.v (.int .i64 0))),(6,true,.c (.v (.bool false))),(7,true,.c (.p 0 0)),(8,true,.c (.v (.int .i64 ((t.1:Int) - 1))))],[(0,.box 258 [.v (.int .i64 x.forecast.tide.mean),.v x.forecast.tide.parts.val,.v x.forecast.surges.val,.v x.chart.points.val,.v x.chart.segments.val,.v x.fleet.val,.v (.int .i64 x.regime.gap),.v (.bool x.regime.noMeet),.v (.int .i64 x.crew.tugs),.v (.int .i64 x.crew.pilots),.v (.int .i64 x.crew.rest),.v x.crew.moves.val,.v L.val,.v H.val,.v t.2.2.val,.v (.slice none 0 0),.v (.int .i64 0),.v (.bool false)])],t.2.1,1⟩) (fun t=>t.1≤L.l.length∧(∀ j (hj:j < L.l.length),t.1≤j→L.l[j].l ≠ [])∧RowAt 3 t.2.1 t.2.2∧t.2.2.l=zNp (LL L) L.l.length t.1∧zD4 t.2.1 t.2.2=Q) (fun t=>t.1) (L.l.length,h2,bt) ⟨qV _,fun j hj cq=>by omega,R0,by rw [ax,zNs bp],aj⟩ [0] ?_ ?_
 ·refine Evs ?_
  repeat' first|exact zjB (zjz (by omega))|exact rfl|exact trivial|assumption|decide|refine And.intro ?_ ?_
 rintro ⟨i,m,d⟩ ⟨hi,ak,R,er,ae⟩
 simp only at hi ak R er ae
 have al:Q.le m:=by rw [← ae];exact zEA
 have M:=hL.mono (jB o al)
 have bu:d.l.length=L.l.length+1:=by rw [er,zNq]
 have hI:∀ y ∈ d.l,I64 y:=fun y D=>by
  rw [er,zNp] at D
  obtain ⟨j,_,rfl⟩:=List.mem_map.1 D
  have:=ai j
  show I64 _
  unfold I64
  split <;> omega
 have az:d.Ok m:=R.ok (by decide) hI
 refine Wk ?_
 refine zc9 rfl (fun hd=>?_) (fun hd=>?_)
 ·obtain ⟨k,rfl⟩:∃ k,i=k+1:=⟨i - 1,by have:=JE hd;omega⟩
  have bv:(((k+1:Nat):Int) - 1)=(k:Int):=by omega
  rw [bv]
  have n:k < L.l.length:=by omega
  have X:(k:Int) < L.l.length:=by omega
  have ag:=M.el n
  repeat' first|refine Wa ?_|(simp only [go_sem,jq,jj,jy,jv,jk,jx,zkQ M n,M.some n,n,X,jW,jY,Jg,JA,JB,JC];try rfl)|refine Wb ?_|fail
  refine zhF (fun _=>zAO L.l[k] _ ag) ?_
  refine Wk ?_
  have bw:(LL L)[k]'(by omega)=L.l[k].l.map (jK (α:=DOption)):=by simp [LL]
  refine zc9 rfl (fun Y=>?_) (fun Y=>?_)
  ·have Y:=JE Y
   have bl:[] ∈ LL L:=by
    rcases zHj (L.l[k].l.map (jK (α:=DOption))) with ⟨e,_⟩|⟨c0,c1⟩
    ·rw [← e,← bw];exact qd _
    ·have Y:zAL (L.l[k].l.map jK) < 0:=Y
     omega
   rw [zNz bl]
   refine Wk ?_
   exact ⟨⟨none,0,[]⟩,rfl,rfl,znE,Mine.nil⟩
  have Y:¬ zAL (L.l[k].l.map jK) < 0:=JF Y
  obtain ⟨Z,a7⟩:∃ Z:Nat,zAL (L.l[k].l.map (jK (α:=DOption)))=Z:=⟨(zAL (L.l[k].l.map jK)).toNat,by omega⟩
  have q:Z < L.l[k].l.length:=by
   rcases zHj (L.l[k].l.map (jK (α:=DOption))) with ⟨e,c0⟩|⟨c0,c1⟩
   ·omega
   ·rw [jH] at c1;omega
  have am:(Z:Int) < L.l[k].l.length:=by omega
  have bm:jK L.l[k]=L.l[k].l.map (jK (α:=DOption)):=rfl
  rw [bm,a7]
  have a8:IntKind.i64.wrap ((k:Int)+1)=((k+1:Nat):Int):=by rw [zjz (by omega)];rfl
  have an:k+1 < d.l.length:=by omega
  have ao:((k+1:Nat):Int) < d.l.length:=by omega
  have ap:k < d.l.length:=by omega
  have aq:(k:Int) < d.l.length:=by omega
  have bd:d.l[k+1]=zMC ((LL L).drop (k+1)):=by
   have:d.l[k+1]=(zNp (LL L) L.l.length (k+1))[k+1]'(by rw [zNq];omega):=by simp only [er]
   rw [this,zNr,if_pos (qV _)]
  have bz:flr (L.l[k].l.map (jK (α:=DOption)))=L.l[k].l[Z].cost:=by
   rw [flr,a7,if_neg (by omega),jW]
   simp [ja,q]
   rfl
  have b7:zMC ((LL L).drop k)=zMC ((LL L).drop (k+1))+L.l[k].l[Z].cost:=by
   rw [zM1 n,zMC,bz]
  have bf:IntKind.i64.wrap (zMC ((LL L).drop (k+1))+L.l[k].l[Z].cost)=zMC ((LL L).drop k):=by
   have:=ai k
   rw [← b7,zjz (by omega)]
  obtain ⟨g,cur,ga,gb,b8,R'⟩:=zNw (u:=zMC ((LL L).drop k)) R ap
  have aa:=zkQ M n
  have N:=zkR az an
  simp only [wy] at aa N
  simp only [ga,qq,za4,jb] at N
  have bg:=zm4 ag q
  have b9:h g=none:=znR o (by rw [← ae];exact zED (a:=⟨g,0,none⟩) ga)
  refine Wk ?_
  refine zz5 rfl ?_
  refine U_t [0,4,5,9,13,14,17,1,6,10,15,2,7,16,3,8,18,11,19,12,20,21,22] rfl ?_
  simp only [go_sem,jq,jj,jy,jv,jk,jx,ga,N,bg,aa,bd,an,ao,ap,aq,a8,n,X,M.some n,q,am,Sl.Ok.some ag q,bf,qq,za4,jX,jW,jY,wy,jb,qJ,jE,Jg,JA,JB,JC,true_or]
  refine U_1 23 1 [] rfl rfl ?_
  simp only [go_sem,jq,jj,jy,jv,jk,jx,ga,N,bg,aa,bd,an,ao,ap,aq,a8,n,X,M.some n,q,am,Sl.Ok.some ag q,bf,qq,za4,jX,jW,jY,wy,jb,qJ,jE,Jg,JA,JB,JC,true_or]
  refine zl5 (by simp only [go_sem]) (by simp only [go_sem]) rfl rfl gb (.inl b9) b8 ?_
  try simp only [go_sem,jq,jj,jy,jv,jk,jx]
  refine U_d ?_
  refine Wk ?_
  refine ⟨(k,m.ins g (.cells (spl k [.int .i64 (zMC ((LL L).drop k))] cur.toList).toArray 3 (0,0)),Sl.mk d.a d.cap (d.l.set k (zMC ((LL L).drop k)))),[0],⟨by omega,fun j hj cr=>?_,R',by simp only;rw [er,zNt n],?_⟩,by simp only;omega,?_⟩
  ·rcases wv k j with h9|h9
   ·exact ak j hj (by omega)
   ·obtain rfl:j=k:=by omega
    intro e
    rw [e] at q
    cases q
  ·simp only
   rw [show zD4 _ (Sl.mk d.a d.cap (d.l.set k (zMC ((LL L).drop k))))=zD4 _ d from rfl,zNx ga,ae]
  refine Evs ?_
  simp only [Sl.val,wc]
  repeat' first|exact zjB (zjz (by omega))|exact rfl|exact trivial|assumption|decide|refine And.intro ?_ ?_
 ·have ca:i=0:=by have:=JF hd;omega
  subst ca
  have bh:[] ∉ LL L:=fun hm=>by
   obtain ⟨l,G,e⟩:=List.mem_map.1 hm
   obtain ⟨j,hj,rfl⟩:=qL G
   exact ak j hj (jC _) (List.map_eq_nil_iff.1 e)
  rw [zNA bh]
  refine zc6 ?_
  refine Evs ?_
  refine zze 0 rfl rfl fun g J bn=>?_
  refine Evs ?_
  have ab:=jB o al
  have K0:SK m (m.ins g (.cells (skC x L H d (Sl.mk none 0 []) 0 false).toArray 258 (0,0))) g x L H d (Sl.mk none 0 []) 0 false :=
   ⟨Hp.ins_le J,jL ab hx,hL.mono ab,okc.mono al,az,J,qD,⟨⟨qV _,jC _,.inl ⟨rfl,rfl,rfl⟩⟩,fun g J=>(by cases J)⟩⟩
  first|refine zzr [0,2,1] rfl ?_|refine zzq [0,2,1] rfl ?_|(refine zc3 ?_;first|refine zzr [0,2,1] rfl ?_|refine zzq [0,2,1] rfl ?_)
  refine Evs ?_
  intro ad cap h3 P
  have P':Pub _ 3 (wA Int) ([]:List Int).length (([]:List Int).flatMap qx) ad cap h3:=P
  have K1:=K0.grow P'.le
  have cok:(Sl.mk ad cap ([]:List Int)).Ok (h3.del g):=by
   obtain ⟨R9,f9,_⟩:=P'.row
   refine RowAt.ok (s:=Sl.mk ad cap ([]:List Int)) (e:=3) (by decide) (R9.keep fun b hb=>?_) fun y D=>(by cases D)
   simp only [Hp.del]
   rw [if_neg fun e=>by
    have:=f9 b hb
    rw [e,qD] at this
    cases this]
  have cb:∀ i (hi:i < d.l.length),d.l[i]=zMC ((LL L).drop i):=fun i hi=>by
   have:d.l[i]=(zNp (LL L) L.l.length 0)[i]'(by rw [zNq];omega):=by simp only [er]
   rw [this,zNr,if_pos (jC _)]
  have cd:∀ i,0≤zMC ((LL L).drop i)∧zMC ((LL L).drop i)≤100000:=fun i=>by
   have:=zNu (LP:=(LL L).drop i) fun l G=>⟨fun e=>bh (by rw [← e];exact yA G),aw l (yA G)⟩
   have:=ai i
   omega
  refine zlL (zNo m g x L H d ah ac au K bu cb cd L.l.length [] [] (Sl.mk ad cap ([]:List Int)) (Sl.mk none 0 []) 0 false none h3 K1 rfl cok rfl (jb _) ⟨rfl,fun i hi=>(by cases hi)⟩) rfl (fun k m=>by rw [m];exact ⟨K1.nbx,.inr bn⟩) ?_
  rintro v h6 kp ⟨bi,m6,bj,H6,w⟩
  obtain ⟨q3,q5,q8,ce,cf,cg,ci,cj,bk⟩:=zNj H6.bx
  have w:BSS (srS (jK x) (LL L) [] [] none) bi m6 bj:=w
  repeat' first|refine Wa ?_|(simp only [go_sem,jq,jj,jy,jv,jk,jx,bk,true_or,JA,JB,Jg];try rfl)|refine Wb ?_|fail
  refine zc9 rfl (fun O=>?_) (fun O=>?_)
  ·have cm:srS (jK x) (LL L) [] [] none=none:=by
    cases hr:srS (jK x) (LL L) [] [] none with
    | none=>rfl
    | some r =>
     rw [hr] at w
     rw [w.1] at O
     cases O
   rw [cm]
   refine Wk ?_
   exact ⟨⟨none,0,[]⟩,rfl,rfl,znE,Mine.nil⟩
  ·cases hr:srS (jK x) (LL L) [] [] none with
   | none =>
    rw [hr] at w
    rw [show bj=false from w] at O
    cases O
   | some r =>
    obtain ⟨r1,r2⟩:=r
    rw [hr] at w
    obtain ⟨b1,b2,b3⟩:=w
    refine Wk ?_
    refine zz5 rfl ?_
    refine U_t [0,4,1,5,2,6,3,7,8,9,10] rfl ?_
    simp only [go_sem,jq,jj,jy,jv,jk,jx,q3,q5,q8,ce,cf,cg,ci,cj,bk,true_or,JA,JB,Jg]
    refine U_d ?_
    refine Wk ?_
    have n:=zNy (fun l G=>by
     obtain ⟨z,O,rfl⟩:=List.mem_map.1 G
     rw [jH];exact JK (ac z O) (by decide)) (fun y D=>(by cases D)) (fun _ _ h=>by cases h) hr
    refine ⟨bi,by rw [b3];rfl,b2,H6.rb.1.ok (by decide) fun y D=>?_,zJU H6.rb.1 fun g J=>znR ab (H6.rb.2 g J).1⟩
    rw [b2] at D
    obtain ⟨z,O,rfl⟩:=List.mem_map.1 D
    have:=n z O
    show I64 _;unfold I64;omega
set_option maxRecDepth 30000 in
theorem zNC (x:DHarbour) (a:Sl DCall) (h:Hp) (f:jD h x) (m:a.Ok h):Ct jV 57 [x.v,a.val] h fun v h'=>∃ s:Sl Int,v=.tuple #[s.val,.int .i64 (zMM (jK x) (jK a)).2.1,.bool (zMM (jK x) (jK a)).2.2]∧jK s=(zMM (jK x) (jK a)).1∧s.Ok h'∧Mine h h' s:=by
 rw [zB6]
 refine zdn (fun A W=>by simp) Tryz.func57 rfl rfl (by simp) fun W0=>?_
 repeat' first|refine Wa ?_|refine zhF (fun _=>zB7 x a _ f m) ?_|(simp only [go_sem,jq,jj,jy,jv,jk,jx];try rfl)|refine Wb ?_|fail
 rw [zB6]
 refine zc9 rfl (fun b=>?_) (fun b=>?_)
 ·rw [jd] at b
  have t:zMM (jK x) a.l=([],0,false):=by rw [zMM,if_neg (by rw [b];exact qa)]
  rw [t]
  refine Wk ?_
  exact ⟨⟨none,0,[]⟩,rfl,rfl,znE,Mine.nil⟩
 rw [jf] at b
 have K:=zKM b
 have u:a.l.length≤1048576:=by omega
 obtain ⟨g,i⟩:=zMQ b
 have g:zBC x.regime=true:=g
 have i:zBp (jK x.chart)=true:=i
 have w:=zK8 b
 have n:(jK x).fleet=x.fleet.l:=zBi _
 have y:zMJ (jK x) (zKH (jK x) a.l)=srI (jK x) (zKH (jK x) a.l) [] [] none:=zMK w (fun l c o j=>by
  rw [zKH] at c
  obtain ⟨d,_,rfl⟩:=List.mem_map.1 c
  rw [n];exact zKA o j) (fun l c o j=>by
  rw [zKH] at c
  obtain ⟨d,_,rfl⟩:=List.mem_map.1 c
  exact (zHI o j).1) (by rw [zKL];omega)
 rw [zMM,if_pos b,← y]
 refine Wk ?_
 refine zz5 rfl ?_
 refine U_t [0,1,2] rfl ?_
 refine Evs ?_
 refine U_1 3 0 [0] rfl rfl ?_
 refine Evs ?_
 refine zkr (zKJ x a _ f m u) rfl ?_
 rintro v M e ⟨L,rfl,k,p,mL⟩
 try simp only [go_sem,jq,jj,jy,jv,jk,jx]
 refine U_1 4 0 [] rfl rfl ?_
 refine Evs ?_
 obtain ⟨z,N,D⟩:=zM8 k
 have H:L.l.length=a.l.length:=by have:=congrArg ud k;rwa [jH,zKL] at this
 refine zkr (zNB x L _ (jL e f) p (by omega) z D (fun _=>⟨i,g⟩)) rfl ?_
 rintro v h2 J ⟨s,rfl,q,r,F⟩
 try simp only [go_sem,jq,jj,jy,jv,jk,jx]
 refine U_t [5,6,7,8,9,10] rfl ?_
 refine Evs ?_
 refine U_d ?_
 refine Wk ?_
 have G:LL L=zKH (jK x) a.l:=k
 rw [G] at q ⊢
 exact ⟨s,rfl,con_ints.trans q,r,F.back e⟩
def zND (l:List Int) (lo hi:Int) (i:Nat):Bool:=decide (lo < l.getD i 0∧l.getD i 0≤hi∧(0 < i→l.getD (i - 1) 0 < l.getD i 0))
def zNE (l:List Int) (lo hi:Int):Bool:=decide (l.length≤3) && decide (∀ i,i < l.length→zND l lo hi i=true)
def zNF (x:PHarbour) (calls:List DCall) (m lo hi:Int):Option PBranch:=match zMb x m lo hi with
 | some y=>if (zMM y calls).2.2=true then some ⟨lo,hi,(zLN y calls (zMM y calls).1).1⟩ else none
 | none=>none
def loAt (low:Int) (l:List Int) (k:Nat):Int:=if k=0 then low else l.getD (k - 1) 0
def brK (x:PHarbour) (calls:List DCall) (m low:Int) (ends:List Int):Nat→Option (List PBranch)
 | 0=>some []
 | k+1=>match brK x calls m low ends k with
  | some bs=>(match zNF x calls m (loAt low ends k) (ends.getD k 0 - 1) with
   | some b=>some (bs ++ [b])
   | none=>none)
  | none=>none
def zNG (x:PHarbour) (calls:List DCall) (m:Int) (cuts:List Int):Bool:=zB5 x calls && (decide (0≤m∧m≤2880) && (zNE cuts (zL6 x.forecast m).low (zL6 x.forecast m).high && calls.all fun a=>decide (m≤a.ready)))
def zNH:PStrategy:=⟨0,[]⟩
def zNI (x:PHarbour) (calls:List DCall) (m:Int) (cuts:List Int):PStrategy × Bool :=
 if zNG x calls m cuts=true then (match brK x calls m (zL6 x.forecast m).low (cuts ++ [(zL6 x.forecast m).high+1]) (cuts.length+1) with
  | some bs=>(⟨m,bs⟩,true)
  | none=>(zNH,false)) else (zNH,false)
theorem zNJ {x:PHarbour} {a:List DCall} {m b:Int} {ends:List Int} {k:Nat} (h:brK x a m b ends k=none):∀ {n:Nat},k≤n→brK x a m b ends n=none
 | 0,c=>by rw [← Nat.le_zero.1 c];exact h
 | n+1,c=>by
  rcases wv k (n+1) with d|d
  ·rw [brK,zNJ h (Nat.le_of_lt_succ d)]
  ·rw [show n+1=k by omega];exact h
theorem zNK {x:PHarbour} {a:List DCall} {m:Int} {b:List Int} (h:zNG x a m b=false):zNI x a m b=(zNH,false):=by
 rw [zNI,if_neg (by rw [h];exact qa)]
theorem zNL {x:PHarbour} {b:List DCall} {m:Int} {a:List Int} {k:Nat} (c:k≤a.length+1) (h:brK x b m (zL6 x.forecast m).low (a ++ [(zL6 x.forecast m).high+1]) k=none):zNI x b m a=(zNH,false):=by
 rw [zNI]
 split
 ·rw [zNJ h c]
 ·rfl
theorem zNM {x:DHarbour} {a:List DCall} (h:zB5 (jK x) a=true):zBb (jK x.forecast)=true:=by
 rw [zB5,zBF] at h
 simp only [jJ] at h
 exact h.1.1.1.1.1.1
theorem zNN {h h':Hp}:Mine h h' (⟨0,⟨none,0,[]⟩⟩:DStrategy):=Mine.flat rfl (Mine.nil (α:=DBranch) (h:=h) (h':=h') (a:=none) (c:=0)).1
theorem zNO {h:Hp}:jD h (⟨0,⟨none,0,[]⟩⟩:DStrategy):=⟨by show I64 0;unfold I64;omega,znE⟩
theorem zNP {h d c:Hp} {s:Sl DBranch} {e:TypeId} {p:Sl DOption} {i j:Int} {h2:Hp} (W:WS e d s) (w:h.le (zD4 d s)) (N:Mines h (zD4 d s) s.l) (hf:∀ g,s.a=some ⟨g,0,none⟩→h g=none) (z:I64 i) (D:I64 j)
  (k:d.le h2) (F:h2.le c) (G:p.Ok c) (q:Mine h2 c p) :
  jD (zD4 c s) (⟨i,j,p⟩:DBranch)∧Mines h (zD4 c s) (s.l ++ [⟨i,j,p⟩])∧h.le (zD4 c s)∧WS e c s:=by
 have u:=jB k F
 obtain ⟨O,t⟩:=W.grow u
 have Q:∀ b ∈ qj p,¬ s.a=some ⟨b,0,none⟩:=fun b m r=>by
  have n:=q.2.1 b m
  obtain ⟨h1,h5,⟨f,_⟩|⟨g',cur,f,H,aa,ab⟩⟩:=W.1
  ·rw [f] at r;cases r
  ·rw [f] at r;cases r
   rw [k _ _ H] at n;cases n
 have J:∀ b o,c b=some o→¬ s.a=some ⟨b,0,none⟩→zD4 c s b=some o:=fun b o m R=>by
  rw [zEC (fun a f X=>R (by rw [f,W.1.blk a f,X]))];exact m
 obtain ⟨Y,op⟩:=ok_keep (M:=fun b=>s.a=some ⟨b,0,none⟩) (x:=p) G q.1 Q J
 have K:jD (zD4 c s) (⟨i,j,p⟩:DBranch):=⟨z,D,Y⟩
 have Z:Mine (zD4 d s) (zD4 c s) (⟨i,j,p⟩:DBranch):=⟨op,(fun b m=>by
  have n:=q.2.1 b m
  cases hh:zD4 d s b with
  | none=>rfl
  | some o=>rw [k _ _ (zEA _ _ hh)] at n;cases n),q.2.2⟩
 exact ⟨K,Mines.snoc N (fun y hy=>W.2 y hy) t w Z,jB w t,O⟩
theorem zNQ (a:Sl Int) (g f:Int) (h:Hp) (e:a.Ok h):Ct jV 74 [a.val,.int .i64 g,.int .i64 f] h fun v h'=>v=.bool (zNE a.l g f)∧h'=h:=by
 have R:=e.max
 rw [zNE]
 refine zdn (fun A W=>by simp) Tryz.func74 rfl rfl (by simp) fun W0=>?_
 refine Wk ?_
 refine zc9 rfl (fun t=>?_) (fun t=>?_)
 ·have t:=JE t
  rw [decide_eq_false (p:=a.l.length≤3) (by omega),qc]
  exact Wk0
 have t:=JF t
 rw [JG (p:=a.l.length≤3) (by omega),qp]
 refine Wk ?_
 refine zde (ι:=Nat) (fun k=>⟨[(0,true,.c (.v a.val)),(1,true,.c (.v (.int .i64 g))),(2,true,.c (.v (.int .i64 f))),(6,true,.c (.v (.bool false))),(12,true,.c (.v a.val)),(13,true,.c (.v (.int .i64 a.l.length))),(14,true,.c (.v (.int .i64 k)))],[],h,0⟩) (fun k=>k≤a.l.length∧∀ i,i < k→zND a.l g f i=true) (fun k=>a.l.length - k) 0 ⟨jC _,zBu⟩ ?_ ?_
 ·refine Evs ?_
  exact Gk
 rintro k ⟨X,y⟩
 refine Wk ?_
 refine zc9 rfl (fun D=>?_) (fun D=>?_)
 ·have d:=zjH D
  have j:(k:Int) < a.l.length:=by omega
  have q:zND a.l g f k=decide (g < a.l[k]∧a.l[k]≤f∧(0 < k→a.l.getD (k - 1) 0 < a.l[k])):=by rw [zND,iget d]
  repeat' first|refine zc8 ?_|(refine zc5 ?_;simp (maxSteps:=2000000) only [go_sem,jq,jj,jy,jv,jk,jx])|refine zc3 ?_
  (first|refine zie rfl ?_|refine zc4 rfl ?_)
  simp (maxSteps:=2000000) only [go_sem,jq,jj,jy,jv,jk,jx,zkR e d,e.some d,d,j,jW]
  repeat' first|refine zc8 ?_|(refine zc5 ?_;simp (maxSteps:=2000000) only [go_sem,jq,jj,jy,jv,jk,jx])|refine zc3 ?_
  refine zFS (ι:=Bool) (fun b=>⟨[(0,true,.c (.v a.val)),(1,true,.c (.v (.int .i64 g))),(2,true,.c (.v (.int .i64 f))),(6,true,.c (.v (.bool false))),(12,true,.c (.v a.val)),(13,true,.c (.v (.int .i64 a.l.length))),(7,true,.c (.v (.int .i64 k))),(14,true,.c (.v (.int .i64 k))),(39,true,.c (.v (.bool b)))],[],h,0⟩) (fun b=>b=!zND a.l g f k) ?_ ?_
  ·have M:=q
   rcases Int.lt_or_le g a.l[k] with w|w
   ·have r:(a.l[k]≤g)=False:=eq_false (by omega)
    rcases Int.lt_or_le f a.l[k] with x|x
    ·have u:(f < a.l[k])=True:=eq_true x
     refine zc4 rfl ?_
     simp (maxSteps:=2000000) only [go_sem,jq,jj,jy,jv,jk,jx,r,u,decide_true,decide_false,zkR e d,e.some d,d,j,jW,jY,wj,wq,yw,uw,wC,wa,wJ,qp,qP,qc,qW,false_implies,JA,JB,Jg,bne_self_eq_false,beq_self_eq_true,reduceCtorEq]
     refine ⟨true,[],?_,?_⟩
     ·rw [q,decide_eq_false (by rintro ⟨_,n,_⟩;omega)];rfl
     ·exact Gk
    ·have u:(f < a.l[k])=False:=eq_false (by omega)
     rcases we k with H|H
     ·have o:((0:Int) < k)=False:=eq_false (by omega)
      refine zc4 rfl ?_
      simp (maxSteps:=2000000) only [go_sem,jq,jj,jy,jv,jk,jx,r,u,o,decide_true,decide_false,zkR e d,e.some d,d,j,jW,jY,wj,wq,yw,uw,wC,wa,wJ,qp,qP,qc,qW,false_implies,JA,JB,Jg,bne_self_eq_false,beq_self_eq_true,reduceCtorEq]
      refine ⟨false,[],?_,?_⟩
      ·rw [q,JG ⟨w,x,fun n=>by omega⟩];rfl
      ·exact Gk
     ·have o:((0:Int) < k)=True:=eq_true (by omega)
      have m:k - 1 < a.l.length:=by omega
      have z:((k - 1:Nat):Int) < a.l.length:=by omega
      have J:IntKind.i64.wrap ((k:Int) - 1)=((k - 1:Nat):Int):=by rw [zjz (by omega)];omega
      rcases Int.lt_or_le a.l[k - 1] a.l[k] with F|F
      ·have G:(a.l[k]≤a.l[k - 1])=False:=eq_false (by omega)
       refine zc4 rfl ?_
       simp (maxSteps:=2000000) only [go_sem,jq,jj,jy,jv,jk,jx,r,u,G,o,m,z,J,zkR e m,e.some m,decide_true,decide_false,zkR e d,e.some d,d,j,jW,jY,wj,wq,yw,uw,wC,wa,wJ,qp,qP,qc,qW,false_implies,JA,JB,Jg,bne_self_eq_false,beq_self_eq_true,reduceCtorEq]
       refine ⟨false,[],?_,?_⟩
       ·rw [q,iget m,JG ⟨w,x,fun _=>F⟩];rfl
       ·exact Gk
      ·have G:(a.l[k]≤a.l[k - 1])=True:=eq_true F
       refine zc4 rfl ?_
       simp (maxSteps:=2000000) only [go_sem,jq,jj,jy,jv,jk,jx,r,u,G,o,m,z,J,zkR e m,e.some m,decide_true,decide_false,zkR e d,e.some d,d,j,jW,jY,wj,wq,yw,uw,wC,wa,wJ,qp,qP,qc,qW,false_implies,JA,JB,Jg,bne_self_eq_false,beq_self_eq_true,reduceCtorEq]
       refine ⟨true,[],?_,?_⟩
       ·rw [q,iget m,decide_eq_false (by rintro ⟨_,_,n⟩;have:=n H;omega)];rfl
       ·exact Gk
   ·have r:(a.l[k]≤g)=True:=eq_true w
    refine zc4 rfl ?_
    simp (maxSteps:=2000000) only [go_sem,jq,jj,jy,jv,jk,jx,r,decide_true,decide_false,zkR e d,e.some d,d,j,jW,jY,wj,wq,yw,uw,wC,wa,wJ,qp,qP,qc,qW,false_implies,JA,JB,Jg,bne_self_eq_false,beq_self_eq_true,reduceCtorEq]
    refine ⟨true,[],?_,?_⟩
    ·rw [q,decide_eq_false (by rintro ⟨n,_⟩;omega)];rfl
    ·exact Gk
  rintro b rfl
  repeat' first|refine zc8 ?_|(refine zc5 ?_;simp (maxSteps:=2000000) only [go_sem,jq,jj,jy,jv,jk,jx])|refine zc3 ?_
  refine zc9 rfl (fun s=>?_) (fun s=>?_)
  ·rw [jd] at s
   refine Wk ?_
   rw [decide_eq_false (fun K=>by rw [K k d] at s;cases s)]
  ·rw [jf] at s
   refine Wk ?_
   refine ⟨k+1,⟨d,fun i N=>?_⟩,by omega,zjB (zjA d (by omega))⟩
   rcases wv i k with n|n
   ·exact y i n
   ·obtain rfl:i=k:=by omega
    exact s
 ·have O:=zjI D
  have Q:k=a.l.length:=by omega
  refine Wk ?_
  rw [JG (fun i f=>y i (by omega))]
set_option maxRecDepth 100000 in
theorem zNR (x:DHarbour) (a:Sl DCall) (m:Int) (c:Sl Int) (h:Hp) (hx:jD h x) (ha:a.Ok h) (hm:I64 m) (hc:c.Ok h) (cf:c.l.length≤1048576):Ct jV 19 [x.v,a.val,.int .i64 m,c.val] h fun v h' =>
  ∃ g:DStrategy,v=.tuple #[g.v,.bool (zNI (jK x) a.l m c.l).2]∧jK g=(zNI (jK x) a.l m c.l).1∧jD h' g∧Mine h h' g:=by
 have ah:jK a=a.l:=zB6 a
 have dk:=ha.max
 refine zdn (fun A W=>by simp) Tryz.func19 rfl rfl (by simp) fun W0=>?_
 have ai:(jK x:PHarbour).forecast=jK x.forecast:=rfl
 rcases Z:zMj (jK x.forecast) m with ⟨n,d,so⟩
 refine Wk ?_
 refine zhF (fun _=>zMl x.forecast m _ hx.1) ?_
 rw [Z]
 refine Evs ?_
 repeat' first|refine zc8 ?_|(refine zc5 ?_;simp (maxSteps:=2000000) only [go_sem,jq,jj,jy,jv,jk,jx])|refine zc3 ?_
 (first|refine zie rfl ?_|refine zc4 rfl ?_)
 refine Evs ?_
 refine zhF (fun _=>zB8 x a _ hx ha) ?_
 simp (maxSteps:=2000000) only [go_sem,jq,jj,jy,jv,jk,jx,ah]
 refine zhF (fun _=>zNQ c n d _ hc) ?_
 refine Evs ?_
 repeat' first|refine zc8 ?_|(refine zc5 ?_;simp (maxSteps:=2000000) only [go_sem,jq,jj,jy,jv,jk,jx])|refine zc3 ?_
 have aj:zNG (jK x) a.l m c.l=true→so=true∧n=(zL6 (jK x.forecast) m).low∧d=(zL6 (jK x.forecast) m).high∧zB5 (jK x) a.l=true∧zNE c.l n d=true∧(0≤m∧m≤2880)∧∀ y ∈ a.l,m≤y.ready:=fun K=>by
  rw [zNG] at K
  simp only [jJ,JD,wY] at K
  obtain ⟨w1,w2,w3,w4⟩:=K
  have w:zMj (jK x.forecast) m=((zL6 (jK x.forecast) m).low,(zL6 (jK x.forecast) m).high,true):=if_pos ⟨zNM w1,w2.1,w2.2⟩
  rw [Z] at w
  obtain ⟨rfl,rfl,rfl⟩:n=(zL6 (jK x.forecast) m).low∧d=(zL6 (jK x.forecast) m).high∧so=true:=⟨congrArg Prod.fst w,congrArg (fun z=>z.2.1) w,congrArg (fun z=>z.2.2) w⟩
  exact ⟨rfl,rfl,rfl,w1,w3,w2,w4⟩
 refine zc9 rfl (fun hz=>?_) (fun hz=>?_)
 ·have D:zNI (jK x) a.l m c.l=(zNH,false):=zNK (by
   cases K:zNG (jK x) a.l m c.l with
   | false=>rfl
   | true =>
    obtain ⟨b1,_,_,b2,b3,_⟩:=aj K
    rw [b1,b2,b3] at hz;simp at hz)
  refine Wk ?_
  exact ⟨⟨0,⟨none,0,[]⟩⟩,by rw [D];rfl,by rw [D];rfl,zNO,zNN⟩
 have cg:so=true∧zB5 (jK x) a.l=true∧zNE c.l n d=true:=by
  revert hz
  cases so <;> cases zB5 (jK x) a.l <;> cases zNE c.l n d <;> simp
 obtain ⟨ci,hC,hK⟩:=cg
 have w:zBb (jK x.forecast)=true∧0≤m∧m≤2880:=by
  by_cases q:zBb (jK x.forecast)=true∧0≤m∧m≤2880
  ·exact q
  ·have:zMj (jK x.forecast) m=(0,0,false):=if_neg q
   rw [Z] at this
   have:=congrArg (fun z=>z.2.2) this
   rw [ci] at this;cases this
 have ak:zMj (jK x.forecast) m=((zL6 (jK x.forecast) m).low,(zL6 (jK x.forecast) m).high,true):=if_pos w
 rw [Z] at ak
 have F:n=(zL6 (jK x.forecast) m).low:=congrArg Prod.fst ak
 have G:d=(zL6 (jK x.forecast) m).high:=congrArg (fun z=>z.2.1) ak
 obtain ⟨cj,cm,co⟩:=zL7 w.1 m
 rw [← F,← G] at cm
 rw [← F] at cj
 rw [← G] at co
 have h6:=zKM hC
 obtain ⟨bg,al⟩:=Bool.and_eq_true_iff.1 hK
 have bg:=JE bg
 have al:=JE al
 refine Wk ?_
 refine zde (ι:=Nat) (fun k=>⟨[(1,true,.c (.v a.val)),(2,true,.c (.v (.int .i64 m))),(3,true,.c (.v c.val)),(4,true,.c (.p 0 0)),(8,true,.c (.p 1 0)),(9,true,.c (.v (.bool false))),(10,true,.c (.v (.int .i64 n))),(11,true,.c (.v (.int .i64 d))),(49,true,.c (.v a.val)),(50,true,.c (.v (.int .i64 a.l.length))),(51,true,.c (.v (.int .i64 k)))],[(0,.box 62 [.v (.int .i64 x.forecast.tide.mean),.v x.forecast.tide.parts.val,.v x.forecast.surges.val,.v x.chart.points.val,.v x.chart.segments.val,.v x.fleet.val,.v (.int .i64 x.regime.gap),.v (.bool x.regime.noMeet),.v (.int .i64 x.crew.tugs),.v (.int .i64 x.crew.pilots),.v (.int .i64 x.crew.rest),.v x.crew.moves.val]),(1,.box 45 [.v (.int .i64 0),.v (.slice none 0 0)])],h,2⟩) (fun k=>k≤a.l.length∧∀ i (d:i < a.l.length),i < k→m≤a.l[i].ready) (fun k=>a.l.length - k) 0 ⟨jC _,fun i _ d=>absurd d (qE i)⟩ ?_ ?_
 ·refine Evs ?_
  exact Gk
 rintro k ⟨hk,bh⟩
 refine Wk ?_
 refine zc9 rfl (fun hd=>?_) (fun hd=>?_)
 ·have j:=zjH hd
  repeat' first|refine Wa ?_|(simp (maxSteps:=2000000) only [go_sem,jq,jj,jy,jv,jk,jx,zkT ha j,ha.some j,j,jW];try rfl)|refine Wb ?_|fail
  refine zc9 rfl (fun hq=>?_) (fun hq=>?_)
  ·have hq:=JE hq
   have D:zNI (jK x) a.l m c.l=(zNH,false):=zNK (by
    cases K:zNG (jK x) a.l m c.l with
    | false=>rfl
    | true =>
     obtain ⟨_,_,_,_,_,_,b4⟩:=aj K
     have:=b4 _ (qd j)
     omega)
   refine Wk ?_
   exact ⟨⟨0,⟨none,0,[]⟩⟩,by rw [D];rfl,by rw [D];rfl,zNO,zNN⟩
  ·have hq:=JF hq
   refine Wk ?_
   refine ⟨k+1,⟨j,fun i d q=>?_⟩,by omega,zjB (zjA j (by omega))⟩
   rcases wv i k with h8|h8
   ·exact bh i d h8
   ·obtain rfl:i=k:=by omega
    omega
 have dm:=zjI hd
 have hW:zNG (jK x) a.l m c.l=true:=by
  rw [zNG,hC,qp,JG (p:=0≤m∧m≤2880) w.2,qp,ai,← F,← G,hK,qp,wY]
  intro y r
  obtain ⟨i,aa,rfl⟩:=qL r
  exact JG (bh i aa (by omega))
 have cp:IntKind.i64.wrap (d+1)=d+1:=zjz (by omega)
 obtain ⟨E,hE⟩:∃ E,E=c.l ++ [d+1]:=⟨_,rfl⟩
 have cq:E.length=c.l.length+1:=by rw [hE,jP,jg]
 have bf:∀ k,k≤c.l.length+1→brK (jK x) a.l m n E k=none→zNI (jK x) a.l m c.l=(zNH,false):=fun k hk q=>zNL (k:=k) hk (by rw [ai,← F,← G,← hE];exact q)
 have am:∀ k,k < E.length→n < E.getD k 0∧E.getD k 0≤d+1:=fun k hk=>by
  rw [hE]
  rcases wv k c.l.length with q|q
  ·have h8:=al k q
   rw [zND,JD] at h8
   rw [ja,wF q,← ja]
   omega
  ·obtain rfl:k=c.l.length:=by omega
   rw [ja,uJ (qV _),Je]
   show n < d+1∧d+1≤d+1
   omega
 refine zc6 ?_
 refine Evs ?_
 repeat' first|refine zc8 ?_|(refine zc5 ?_;simp (maxSteps:=2000000) only [go_sem,jq,jj,jy,jv,jk,jx])|refine zc3 ?_
 (first|refine zie rfl ?_|refine zc4 rfl ?_|(refine zc3 ?_;first|refine zie rfl ?_|refine zc4 rfl ?_));simp (maxSteps:=2000000) only [go_sem,jq,jj,jy,jv,jk,jx]
 repeat' first|refine zc8 ?_|(refine zc5 ?_;simp (maxSteps:=2000000) only [go_sem,jq,jj,jy,jv,jk,jx])|refine zc3 ?_
 first|refine zzr [0,0,0,0,0,3,0,0] rfl ?_|refine zzq [0,0,0,0,0,3,0,0] rfl ?_|(refine zc3 ?_;first|refine zzr [0,0,0,0,0,3,0,0] rfl ?_|refine zzq [0,0,0,0,0,3,0,0] rfl ?_)
 refine Evs ?_
 refine zkr (zF8 c _ hc cf) rfl ?_
 rintro v h1 cr ⟨H,rfl,e1,R1,f1⟩
 simp (maxSteps:=2000000) only [go_sem,jq,jj,jy,jv,jk,jx,cp]
 refine zD6 (s:=H) rfl R1 (fun g M=>.inl (f1 g M)) ?_
 refine Evs ?_
 have bt:H.l.length=c.l.length:=by rw [e1]
 refine ⟨rfl,by simp only [maxLen];omega,by omega,fun an N h2 P2=>?_⟩
 have bi:Pub (zD4 h1 H) 3 (wA Int) (H.l ++ [d+1]).length ((H.l ++ [d+1]).flatMap qx) an N h2:=by
  rw [jP,jF];exact P2
 obtain ⟨R2,f2,_⟩:=bi.row
 have bj:h.le h2:=jB (zD7 cr f1 (fun a9 ct=>by rw [R1.blk a9 ct];exact ⟨rfl,rfl⟩)) bi.le
 obtain ⟨t,ao⟩:∃ t:Sl Int,t=⟨an,N,H.l ++ [d+1]⟩:=⟨_,rfl⟩
 have O:t.l=E:=by rw [ao,hE,e1]
 have bu:Value.slice an (H.l.length+1) N=t.val:=by rw [ao];simp only [Sl.val,jP,jg]
 have bv:t.Ok h2:=by
  rw [← ao] at R2
  exact R2.ok (by decide) fun y r=>by
   rw [O] at r
   obtain ⟨i,aa,rfl⟩:=qL r
   have:=am i aa
   rw [ja,qX aa] at this
   show I64 E[i]
   have h8:n < E[i]∧E[i]≤d+1:=this
   unfold I64;omega
 have bw:t.l.length=c.l.length+1:=by rw [O,cq]
 have dh:((H.l.length:Int)+1)=((c.l.length+1:Nat):Int):=by rw [e1];omega
 simp (maxSteps:=2000000) only [go_sem,jq,jj,jy,jv,jk,jx,bu]
 refine Wk ?_
 refine zFU (ι:=(Nat × Sl DBranch) × Hp) (fun i=>⟨[(1,true,.c (.v a.val)),(2,true,.c (.v (.int .i64 m))),(4,true,.c (.p 0 0)),(8,true,.c (.p 1 0)),(9,true,.c (.v (.bool false))),(10,true,.c (.v (.int .i64 (loAt n E i.1.1)))),(15,true,.c (.p 2 0)),(68,true,.c (.v t.val)),(69,true,.c (.v (.int .i64 t.l.length))),(70,true,.c (.v (.int .i64 i.1.1)))],[(0,.box 62 [.v (.int .i64 x.forecast.tide.mean),.v x.forecast.tide.parts.val,.v x.forecast.surges.val,.v x.chart.points.val,.v x.chart.segments.val,.v x.fleet.val,.v (.int .i64 x.regime.gap),.v (.bool x.regime.noMeet),.v (.int .i64 x.crew.tugs),.v (.int .i64 x.crew.pilots),.v (.int .i64 x.crew.rest),.v x.crew.moves.val]),(1,.box 45 [.v (.int .i64 0),.v (.slice none 0 0)]),(2,.box 45 [.v (.int .i64 m),.v i.1.2.val])],i.2,3⟩)
  (fun i=>i.1.1≤c.l.length+1∧WS 128 i.2 i.1.2∧h2.le (zD4 i.2 i.1.2)∧Mines h (zD4 i.2 i.1.2) i.1.2.l∧(∀ g,i.1.2.a=some ⟨g,0,none⟩→h g=none)∧Mine h i.2 i.1.2∧brK (jK x) a.l m n E i.1.1=some (i.1.2.l.map jK)∧i.1.2.l.length=i.1.1) (fun i=>c.l.length+1 - i.1.1) ((0,⟨none,0,[]⟩),h2) ⟨jC _,⟨⟨qV _,jC _,.inl ⟨rfl,rfl,rfl⟩⟩,fun y r=>(by cases r)⟩,wW _,Mines.nil,fun g M=>(by cases M),Mine.nil,rfl,rfl⟩ [0,1,2] ?_ ?_
 ·simp (maxSteps:=2000000) only [go_sem,jq,jj,jy,jv,jk,jx,bw,bt]
  exact Gk
 rintro ⟨⟨k,s⟩,hk⟩ ⟨cu,W,hD,hM,hf,ap,aq,bk⟩
 simp only at cu W hD hM hf ap aq bk
 have au:h2.le hk:=jB hD zEA
 have Q:=jB bj au
 have bz:=jL (x:=x) Q hx
 have b7:=ha.mono Q
 have R:=bv.mono au
 have dn:=R.max
 refine Wk ?_
 refine zc9 rfl (fun av=>?_) (fun av=>?_)
 case refine_2 =>
  have di:=zjI av
  have cw:k=c.l.length+1:=by omega
  have hF:zNI (jK x) a.l m c.l=(⟨m,s.l.map jK⟩,true):=by
   rw [zNI,if_pos hW,ai,← F,← G,← hE,← cw,aq]
  refine Wk ?_
  exact ⟨⟨m,s⟩,(by first|(rw [hF];done)|(rw [hF];rfl)),(by first|(rw [hF];done)|(rw [hF];rfl)),⟨hm,W.ok (by decide)⟩,News.mine ap.1 ap.news⟩
 have j:=zjH av
 have cy:k < E.length:=by omega
 obtain ⟨e,bl⟩:∃ e,t.l[k]=e:=⟨_,rfl⟩
 have X:E.getD k 0=e:=by rw [← O,iget j];exact bl
 have hb:=am k cy
 rw [X] at hb
 have bm:IntKind.i64.wrap (e - 1)=e - 1:=zjz (by omega)
 obtain ⟨f,aw⟩:∃ f,loAt n E k=f:=⟨_,rfl⟩
 have dj:n≤f∧f≤d+1:=by
  rw [← aw,loAt]
  split
  ·omega
  ·have:=am (k - 1) (by omega);omega
 rw [aw]
 repeat' first|refine Wa ?_|(simp (maxSteps:=2000000) only [go_sem,jq,jj,jy,jv,jk,jx,zkR R j,R.some j,j,bl,bm,jW];try rfl)|refine Wb ?_|fail
 refine zkr (zMg x m f (e - 1) _ bz hm (by unfold I64;omega) (by unfold I64;omega)) rfl ?_
 rintro v h3 ab ⟨y,rfl,Y,bn,_⟩
 obtain ⟨o,ho⟩:∃ o,zMb (jK x) m f (e - 1)=o:=⟨_,rfl⟩
 rw [ho] at Y ⊢
 have ax:=b7.mono ab
 refine Evs ?_
 refine Wk ?_
 refine zkr (zM9 y a _ bn ax) rfl ?_
 rintro v h4 J ⟨ch,rfl,bp,b8,_⟩
 rw [ah] at bp ⊢
 have b9:=jL (x:=y) J bn
 have ca:=ax.mono J
 obtain ⟨fo,az⟩:∃ fo,(zMM (jK y) a.l).2.2=fo:=⟨_,rfl⟩
 rw [az]
 refine Evs ?_
 refine Wk ?_
 have ac:∀ o,zMb (jK x) m f (e - 1)=o→zNF (jK x) a.l m f (e - 1)=(match o with
   | some y=>if (zMM y a.l).2.2=true then some ⟨f,e - 1,(zLN y a.l (zMM y a.l).1).1⟩ else none
   | none=>none):=fun o h=>by subst h;rfl
 replace ac:=ac o ho
 have a7:brK (jK x) a.l m n E (k+1)=(match zNF (jK x) a.l m f (e - 1) with
   | some b=>some (s.l.map jK ++ [b])
   | none=>none):=by
  rw [brK,aq,aw,X]
  first|done|(cases zNF (jK x) a.l m f (e - 1) <;> rfl)
 refine zc9 rfl (fun a8=>?_) (fun a8=>?_)
 ·have cz:zNF (jK x) a.l m f (e - 1)=none:=by
   rw [ac]
   cases o with
   | none=>rfl
   | some y' =>
    have Y:jK y=y':=Y
    have cb:fo=false:=by
     revert a8;cases fo <;> simp
    show (if _ then _ else none)=none
    rw [← Y,az,cb];rfl
  have D:=bf (k+1) (by omega) (by rw [a7,cz])
  refine Wk ?_
  exact ⟨⟨0,⟨none,0,[]⟩⟩,by rw [D];rfl,by rw [D];rfl,zNO,zNN⟩
 have da:o.isSome=true∧fo=true:=by
  revert a8;cases o.isSome <;> cases fo <;> simp
 obtain ⟨db,rfl⟩:=da
 obtain ⟨y',rfl⟩:=Option.isSome_iff_exists.1 db
 have Y:jK y=y':=Y
 refine Wk ?_
 refine zkr (zMq y a ch _ b9 ca b8) rfl ?_
 rintro v h5 bd ⟨p,rfl,ep,dc,mp⟩
 rw [ah,bp] at ep
 have cd:zNF (jK x) a.l m f (e - 1)=some (jK (⟨f,e - 1,p⟩:DBranch)):=by
  rw [ac]
  show (if _ then _ else none)=_
  rw [← Y,if_pos az,← ep];rfl
 rw [cd] at a7
 obtain ⟨bq,mb,de,W5⟩:=zNP W (jB bj hD) hM hf (show I64 f by unfold I64;omega) (show I64 (e - 1) by unfold I64;omega) (jB ab J) bd dc mp
 obtain ⟨_,df⟩:=W.grow (jB (jB ab J) bd)
 try simp (maxSteps:=2000000) only [go_sem,jq,jj,jy,jv,jk,jx]
 repeat' first|refine zc8 ?_|(refine zc5 ?_;simp (maxSteps:=2000000) only [go_sem,jq,jj,jy,jv,jk,jx])|refine zc3 ?_
 first|refine zzr [0,0,0,0,0,0,0,0,3,0,0] rfl ?_|refine zzq [0,0,0,0,0,0,0,0,3,0,0] rfl ?_|(refine zc3 ?_;first|refine zzr [0,0,0,0,0,0,0,0,3,0,0] rfl ?_|refine zzq [0,0,0,0,0,0,0,0,3,0,0] rfl ?_)
 simp (maxSteps:=2000000) only [go_sem,jq,jj,jy,jv,jk,jx,bm]
 refine zD6 (s:=s) rfl W5.1 (fun g M=>.inl (hf g M)) ?_
 try simp (maxSteps:=2000000) only [go_sem,jq,jj,jy,jv,jk,jx]
 refine ⟨rfl,by simp only [maxLen];omega,by omega,fun ae u ag P6=>?_⟩
 have br:Pub (zD4 h5 s) 128 (wA DBranch) (s.l ++ [(⟨f,e - 1,p⟩:DBranch)]).length ((s.l ++ [(⟨f,e - 1,p⟩:DBranch)]).flatMap qx) ae u ag:=by
  rw [jP,jF];exact P6
 obtain ⟨W6,d6,f6,_⟩:=W5.push bq br
 have m6:=br.mine de (fun y r=>(by
  rcases List.mem_append.1 r with r|r
  ·exact W5.2 y r
  ·rw [List.mem_singleton.1 r];exact bq)) mb
 have dg:(Sl.mk ae u (s.l ++ [(⟨f,e - 1,p⟩:DBranch)])).val=.slice ae (s.l.length+1) u:=by simp only [Sl.val,jP,jg]
 try simp (maxSteps:=2000000) only [go_sem,jq,jj,jy,jv,jk,jx]
 refine Wk ?_
 refine ⟨((k+1,⟨ae,u,s.l ++ [⟨f,e - 1,p⟩]⟩),ag),[0,1,2],⟨(by show k+1≤c.l.length+1;omega),W6,?_,?_,fun g M=>?_,m6,?_,?_⟩,(by show c.l.length+1 - (k+1) < c.l.length+1 - k;omega),?_⟩
 ·show h2.le (zD4 ag _)
  rw [d6];exact jB hD df
 ·show Mines h (zD4 ag _) _
  rw [d6];exact mb
 ·rcases f6 g M with q|q
  ·cases hh:h g with
   | none=>rfl
   | some o9=>rw [jB (jB (jB Q ab) J) bd g o9 hh] at q;cases q
  ·exact hf g q
 ·show brK _ _ _ _ _ (k+1)=some ((s.l ++ [_]).map jK)
  rw [a7,qB];rfl
 ·show (s.l ++ [_]).length=k+1
  rw [jP,bk];rfl
 have ce:loAt n E (k+1)=e:=by
  rw [loAt,if_neg (Nat.succ_ne_zero k),uW,X]
 simp (maxSteps:=2000000) only [go_sem,jq,jj,jy,jv,jk,jx,dg,ce,zjA j (by omega)]
 exact Gk
set_option maxRecDepth 100000 in
theorem zNS (x:DHarbour) (a:Sl DCall) (m:Int) (c:Sl Int) (h:Hp) (hx:jD h x) (ha:a.Ok h) (hm:I64 m) (hc:c.Ok h):Ct jV 15 [x.v,a.val,.int .i64 m,c.val] h fun v h' =>
  ∃ g:DStrategy,v=.tuple #[g.v,.bool (zNI (jK x) a.l m c.l).2]∧jK g=(zNI (jK x) a.l m c.l).1∧jD h' g∧h.le h':=by
 have am:jK a=a.l:=zB6 a
 have da:=ha.max
 have db:=hc.max
 have an:(jK x:PHarbour).forecast=jK x.forecast:=rfl
 refine zdn (fun A W=>by simp) Tryz.func15 rfl rfl (by simp) fun W0=>?_
 repeat' first|refine Wa ?_|refine zhF (fun _=>zB7 x a _ hx ha) ?_|refine zhF (fun _=>zAA _ _ _ _) ?_|(simp (maxSteps:=2000000) only [go_sem,jq,jj,jy,jv,jk,jx];try rfl)|refine Wb ?_|fail
 rw [am]
 have J:zNG (jK x) a.l m c.l=true→zB5 (jK x) a.l=true∧zNE c.l (zL6 (jK x.forecast) m).low (zL6 (jK x.forecast) m).high=true∧(0≤m∧m≤2880)∧∀ y ∈ a.l,m≤y.ready:=fun K=>by
  rw [zNG] at K
  simp only [jJ,JD,wY] at K
  obtain ⟨w1,w2,w3,w4⟩:=K
  exact ⟨w1,w3,w2,w4⟩
 refine zc9 rfl (fun hz=>?_) (fun hz=>?_)
 ·have q:zNI (jK x) a.l m c.l=(zNH,false):=zNK (by
   cases K:zNG (jK x) a.l m c.l with
   | false=>rfl
   | true =>
    obtain ⟨b2,Q,⟨b4,b5⟩,_⟩:=J K
    rw [zNE,jJ,JD] at Q
    have b6:((3:Int) < c.l.length)=False:=eq_false (by have:=Q.1;omega)
    rw [b2] at hz;simp [b4,b5,b6] at hz
    first|done|(have:=Q.1;omega))
  refine Wk ?_
  first|exact ⟨⟨0,⟨none,0,[]⟩⟩,by rw [q];rfl,by rw [q];rfl,zNO,wW _⟩|exact ⟨⟨0,⟨none,0,[]⟩⟩,by rw [q];rfl,by rw [q];rfl,zNO⟩
 have b8:zB5 (jK x) a.l=true∧(0≤m∧m≤2880)∧c.l.length≤3:=by
  obtain ⟨z1,z2⟩:=Bool.or_eq_false_iff.1 hz
  obtain ⟨z3,z4⟩:=Bool.or_eq_false_iff.1 z1
  rw [jf] at z3 z4
  rw [jJ,JD,JD] at z4
  have:=JF z2
  exact ⟨z3,z4,by omega⟩
 obtain ⟨hC,b9,ca⟩:=b8
 have bf:=zNM hC
 have hn:0 < x.forecast.surges.l.length:=by have:=zCK bf;rwa [zCL] at this
 obtain ⟨cb,cd,ce⟩:=zL7 bf m
 have h6:=zKM hC
 refine Wk ?_
 refine zde (ι:=Nat) (fun k=>⟨[(1,true,.c (.v a.val)),(2,true,.c (.v (.int .i64 m))),(3,true,.c (.v c.val)),(4,true,.c (.p 0 0)),(8,true,.c (.p 1 0)),(9,true,.c (.v (.bool false))),(39,true,.c (.v a.val)),(40,true,.c (.v (.int .i64 a.l.length))),(41,true,.c (.v (.int .i64 k)))],[(0,.box 62 [.v (.int .i64 x.forecast.tide.mean),.v x.forecast.tide.parts.val,.v x.forecast.surges.val,.v x.chart.points.val,.v x.chart.segments.val,.v x.fleet.val,.v (.int .i64 x.regime.gap),.v (.bool x.regime.noMeet),.v (.int .i64 x.crew.tugs),.v (.int .i64 x.crew.pilots),.v (.int .i64 x.crew.rest),.v x.crew.moves.val]),(1,.box 45 [.v (.int .i64 0),.v (.slice none 0 0)])],h,2⟩) (fun k=>k≤a.l.length∧∀ i (e:i < a.l.length),i < k→m≤a.l[i].ready) (fun k=>a.l.length - k) 0 ⟨jC _,fun i _ e=>absurd e (qE i)⟩ ?_ ?_
 ·refine Evs ?_
  exact Gk
 rintro k ⟨hk,bg⟩
 refine Wk ?_
 refine zc9 rfl (fun hd=>?_) (fun hd=>?_)
 ·have F:=zjH hd
  repeat' first|refine Wa ?_|(simp (maxSteps:=2000000) only [go_sem,jq,jj,jy,jv,jk,jx,zkT ha F,ha.some F,F,jW];try rfl)|refine Wb ?_|fail
  refine zc9 rfl (fun M=>?_) (fun M=>?_)
  ·have M:=JE M
   have q:zNI (jK x) a.l m c.l=(zNH,false):=zNK (by
    cases K:zNG (jK x) a.l m c.l with
    | false=>rfl
    | true =>
     obtain ⟨_,_,_,b4⟩:=J K
     have:=b4 _ (qd F)
     omega)
   refine Wk ?_
   first|exact ⟨⟨0,⟨none,0,[]⟩⟩,by rw [q];rfl,by rw [q];rfl,zNO,wW _⟩|exact ⟨⟨0,⟨none,0,[]⟩⟩,by rw [q];rfl,by rw [q];rfl,zNO⟩
  ·have M:=JF M
   refine Wk ?_
   refine ⟨k+1,⟨F,fun i e w=>?_⟩,by omega,zjB (zjA F (by omega))⟩
   rcases wv i k with h8|h8
   ·exact bg i e h8
   ·obtain rfl:i=k:=by omega
    omega
 have dc:=zjI hd
 refine Wk ?_
 refine zhF (fun _=>zCR x.forecast m _ hx.1 hn) ?_
 obtain ⟨sg,bh⟩:∃ sg:DSurge,x.forecast.surges.l.getD (zCF x.forecast.surges.l m) dS=sg:=⟨_,rfl⟩
 have u:zL6 (jK x.forecast) m=sg:=by rw [zL6,zCL,bh]
 obtain ⟨n,z⟩:∃ n,sg.low=n:=⟨_,rfl⟩
 obtain ⟨e,D⟩:∃ e,sg.high=e:=⟨_,rfl⟩
 rw [bh]
 rw [u,z,D] at cd
 rw [u,z] at cb
 rw [u,D] at ce
 rw [u,z,D] at J
 have bd:zNE c.l n e=true→zNG (jK x) a.l m c.l=true:=fun hK=>by
  rw [zNG,hC,qp,JG (p:=0≤m∧m≤2880) b9,qp,an,u,z,D,hK,qp,wY]
  intro y hy
  obtain ⟨i,R,rfl⟩:=qL hy
  exact JG (bg i R (by omega))
 have bm:∀ i,i < c.l.length→zND c.l n e i=false→zNI (jK x) a.l m c.l=(zNH,false):=fun i R w=>zNK (by
  cases K:zNG (jK x) a.l m c.l with
  | false=>rfl
  | true =>
   obtain ⟨_,Q,_⟩:=J K
   rw [zNE,jJ,JD,JD] at Q
   have:=Q.2 i R
   rw [w] at this;cases this)
 obtain ⟨E,hE⟩:∃ E,E=c.l ++ [e+1]:=⟨_,rfl⟩
 have de:E.length=c.l.length+1:=by rw [hE,jP,jg]
 have ae:∀ k,k≤c.l.length+1→brK (jK x) a.l m n E k=none→zNI (jK x) a.l m c.l=(zNH,false):=fun k hk w=>zNL (k:=k) hk (by rw [an,u,z,D,← hE];exact w)
 have bi:∀ k,k < c.l.length→E.getD k 0=c.l.getD k 0:=fun k w=>by
  rw [hE,ja,wF w,← ja]
 have cf:E.getD c.l.length 0=e+1:=by
  rw [hE,ja,uJ (qV _),Je];rfl
 simp (maxSteps:=2000000) only [go_sem,jq,jj,jy,jv,jk,jx,z,D]
 refine Wk ?_
 refine zFU (ι:=(Nat × Sl DBranch) × Hp) (fun i=>⟨[(1,true,.c (.v a.val)),(2,true,.c (.v (.int .i64 m))),(3,true,.c (.v c.val)),(4,true,.c (.p 0 0)),(8,true,.c (.p 1 0)),(9,true,.c (.v (.bool false))),(12,true,.c (.p 2 0)),(13,true,.c (.v (.int .i64 (loAt n E i.1.1)))),(14,true,.c (.p 3 0)),(15,true,.c (.v (.int .i64 i.1.1)))],[(0,.box 62 [.v (.int .i64 x.forecast.tide.mean),.v x.forecast.tide.parts.val,.v x.forecast.surges.val,.v x.chart.points.val,.v x.chart.segments.val,.v x.fleet.val,.v (.int .i64 x.regime.gap),.v (.bool x.regime.noMeet),.v (.int .i64 x.crew.tugs),.v (.int .i64 x.crew.pilots),.v (.int .i64 x.crew.rest),.v x.crew.moves.val]),(1,.box 45 [.v (.int .i64 0),.v (.slice none 0 0)]),(2,.box 125 [.v (.int .i64 sg.src),.v (.int .i64 n),.v (.int .i64 e)]),(3,.box 45 [.v (.int .i64 m),.v i.1.2.val])],i.2,4⟩)
  (fun i=>i.1.1≤c.l.length+1∧(∀ j,j < i.1.1→j < c.l.length→zND c.l n e j=true)∧WS 128 i.2 i.1.2∧h.le (zD4 i.2 i.1.2)∧Mines h (zD4 i.2 i.1.2) i.1.2.l∧(∀ g,i.1.2.a=some ⟨g,0,none⟩→h g=none)∧brK (jK x) a.l m n E i.1.1=some (i.1.2.l.map jK)∧i.1.2.l.length=i.1.1) (fun i=>c.l.length+1 - i.1.1) ((0,⟨none,0,[]⟩),h) ⟨jC _,fun j hj=>absurd hj (qE j),⟨⟨qV _,jC _,.inl ⟨rfl,rfl,rfl⟩⟩,fun y hy=>(by cases hy)⟩,wW _,Mines.nil,fun g hg=>(by cases hg),rfl,rfl⟩ [0,1,2,3] ?_ ?_
 ·refine Evs ?_
  exact Gk
 rintro ⟨⟨k,s⟩,hk⟩ ⟨cg,X,W,hD,hM,hf,ao,bj⟩
 simp only at cg X W hD hM hf ao bj
 have r:h.le hk:=jB hD zEA
 have bn:=jL (x:=x) r hx
 have bp:=ha.mono r
 have N:=hc.mono r
 refine Wk ?_
 refine zc9 rfl (fun Y=>?_) (fun Y=>?_)
 case refine_2 =>
  have Y:=JF Y
  have ci:k=c.l.length+1:=by omega
  have hK:zNE c.l n e=true:=by
   rw [zNE,jJ,JD,JD]
   exact ⟨ca,fun i R=>X i (by omega) R⟩
  have hF:zNI (jK x) a.l m c.l=(⟨m,s.l.map jK⟩,true):=by
   rw [zNI,if_pos (bd hK),an,u,z,D,← hE,← ci,ao]
  refine Wk ?_
  exact ⟨⟨m,s⟩,(by first|(rw [hF];done)|(rw [hF];rfl)),(by first|(rw [hF];done)|(rw [hF];rfl)),⟨hm,W.ok (by decide)⟩,r⟩
 have Y:=JE Y
 have df:k≤c.l.length:=by omega
 obtain ⟨f,ag⟩:∃ f,loAt n E k=f:=⟨_,rfl⟩
 have ap:k=0→f=n:=fun h0=>by rw [← ag,loAt,if_pos h0]
 have ab:0 < k→f=c.l.getD (k - 1) 0:=fun h0=>by rw [← ag,loAt,if_neg (by omega),bi (k - 1) (by omega)]
 have cw:n≤f∧f≤e+1:=by
  rcases we k with h0|h0
  ·rw [ap h0];omega
  ·rw [ab h0]
   have h8:=X (k - 1) (by omega) (by omega)
   rw [zND,JD] at h8
   omega
 rw [ag]
 obtain ⟨d,ah⟩:∃ d,E.getD k 0=d:=⟨_,rfl⟩
 repeat' first|refine zc8 ?_|(refine zc5 ?_;simp (maxSteps:=2000000) only [go_sem,jq,jj,jy,jv,jk,jx])|refine zc3 ?_
 (first|refine zie rfl ?_|refine zc4 rfl ?_|(refine zc3 ?_;first|refine zie rfl ?_|refine zc4 rfl ?_));simp (maxSteps:=2000000) only [go_sem,jq,jj,jy,jv,jk,jx]
 refine zc3 ?_
 refine zFS (ι:=Unit) (fun _=>⟨[(1,true,.c (.v a.val)),(2,true,.c (.v (.int .i64 m))),(3,true,.c (.v c.val)),(4,true,.c (.p 0 0)),(8,true,.c (.p 1 0)),(9,true,.c (.v (.bool false))),(12,true,.c (.p 2 0)),(13,true,.c (.v (.int .i64 f))),(14,true,.c (.p 3 0)),(15,true,.c (.v (.int .i64 k))),(16,true,.c (.v (.int .i64 (d - 1))))],[(0,.box 62 [.v (.int .i64 x.forecast.tide.mean),.v x.forecast.tide.parts.val,.v x.forecast.surges.val,.v x.chart.points.val,.v x.chart.segments.val,.v x.fleet.val,.v (.int .i64 x.regime.gap),.v (.bool x.regime.noMeet),.v (.int .i64 x.crew.tugs),.v (.int .i64 x.crew.pilots),.v (.int .i64 x.crew.rest),.v x.crew.moves.val]),(1,.box 45 [.v (.int .i64 0),.v (.slice none 0 0)]),(2,.box 125 [.v (.int .i64 sg.src),.v (.int .i64 n),.v (.int .i64 e)]),(3,.box 45 [.v (.int .i64 m),.v s.val])],hk,4⟩)
  (fun _=>(n≤d∧d≤e+1)∧∀ j,j < k+1→j < c.l.length→zND c.l n e j=true) ?_ ?_
 ·refine Wk ?_
  refine zc9 rfl (fun M=>?_) (fun M=>?_)
  ·have t:=zjH M
   have aq:(k:Int) < c.l.length:=by omega
   have au:c.l[k]=d:=by rw [← ah,bi k t,iget t]
   have av:zND c.l n e k=decide (n < d∧d≤e∧(0 < k→c.l.getD (k - 1) 0 < d)):=by rw [zND,iget t,au]
   repeat' first|refine zc8 ?_|(refine zc5 ?_;simp (maxSteps:=2000000) only [go_sem,jq,jj,jy,jv,jk,jx])|refine zc3 ?_
   refine zz5 rfl ?_
   refine U_t [0,1,4,2,3,5,6,7,8,11,9,12,10,13,14] rfl ?_
   simp (maxSteps:=2000000) only [go_sem,jq,jj,jy,jv,jk,jx,zkR N t,N.some t,t,aq,au,jW,jY]
   refine U_d ?_
   repeat' first|refine zc8 ?_|(refine zc5 ?_;simp (maxSteps:=2000000) only [go_sem,jq,jj,jy,jv,jk,jx])|refine zc3 ?_
   refine zc9 rfl (fun ai=>?_) (fun ai=>?_)
   ·have Z:zND c.l n e k=false:=by
     rw [av,JH]
     rintro ⟨b1,b2,Q⟩
     rcases we k with h0|h0
     ·have:=ap h0;simp at ai;omega
     ·have:=ab h0;have:=Q h0;simp at ai;omega
    have q:=bm k t Z
    refine Wk ?_
    exact ⟨⟨0,⟨none,0,[]⟩⟩,by rw [q];rfl,by rw [q];rfl,zNO,r⟩
   ·have dg:f < d∧d≤e:=by simp at ai;omega
    have cj:IntKind.i64.wrap (d - 1)=d - 1:=zjz (by omega)
    repeat' first|refine Wa ?_|(simp (maxSteps:=2000000) only [go_sem,jq,jj,jy,jv,jk,jx,zkR N t,N.some t,t,aq,au,cj,jW,jY];try rfl)|refine Wb ?_|fail
    refine ⟨(),[0,1,2,3],⟨⟨by omega,by omega⟩,fun j hj aw=>?_⟩,?_⟩
    ·rcases wv j k with h8|h8
     ·exact X j h8 aw
     ·obtain rfl:j=k:=by omega
      rw [av,JD]
      refine ⟨by omega,by omega,fun h0=>?_⟩
      have:=ab h0;omega
    refine Evs ?_
    exact Gk
  ·have cy:=zjI M
   obtain rfl:k=c.l.length:=by omega
   have cz:d=e+1:=by rw [← ah,cf]
   have bq:d - 1=e:=by omega
   refine Wk ?_
   refine ⟨(),[0,1,2,3],⟨⟨by omega,by omega⟩,fun j hj aw=>X j (by omega) aw⟩,?_⟩
   simp (maxSteps:=2000000) only [go_sem,jq,jj,jy,jv,jk,jx,bq]
   exact Gk
 rintro _ ⟨hb,br⟩
 refine Wk ?_
 refine zkr (zMi x m f (d - 1) _ bn hm (by unfold I64;omega) (by unfold I64;omega)) rfl ?_
 rintro v h3 G ⟨y,rfl,ey,bk,_⟩
 obtain ⟨o,ho⟩:∃ o,zMb (jK x) m f (d - 1)=o:=⟨_,rfl⟩
 rw [ho] at ey ⊢
 have ax:=bp.mono G
 have aa:∀ o,zMb (jK x) m f (d - 1)=o→zNF (jK x) a.l m f (d - 1)=(match o with
   | some y=>if (zMM y a.l).2.2=true then some ⟨f,d - 1,(zLN y a.l (zMM y a.l).1).1⟩ else none
   | none=>none):=fun o h=>by subst h;rfl
 replace aa:=aa o ho
 have aj:brK (jK x) a.l m n E (k+1)=(match zNF (jK x) a.l m f (d - 1) with
   | some b=>some (s.l.map jK ++ [b])
   | none=>none):=by
  rw [brK,ao,ag,ah]
  first|done|(cases zNF (jK x) a.l m f (d - 1) <;> rfl)
 refine Evs ?_
 refine Wk ?_
 refine zc9 rfl (fun az=>?_) (fun az=>?_)
 ·have Z:zNF (jK x) a.l m f (d - 1)=none:=by
   rw [aa]
   cases o with
   | none=>rfl
   | some y'=>cases az
  have q:=ae (k+1) (by omega) (by rw [aj,Z])
  refine Wk ?_
  exact ⟨⟨0,⟨none,0,[]⟩⟩,by rw [q];rfl,by rw [q];rfl,zNO,jB r G⟩
 have cm:o.isSome=true:=by revert az;cases o.isSome <;> simp
 obtain ⟨y',rfl⟩:=Option.isSome_iff_exists.1 cm
 have ey:jK y=y':=ey
 refine Wk ?_
 refine zkr (zNC y a _ bk ax) rfl ?_
 rintro v h4 H ⟨ch,rfl,bl,bt,_⟩
 rw [am] at bl ⊢
 have bu:=jL (x:=y) H bk
 have bv:=ax.mono H
 obtain ⟨fo,ac⟩:∃ fo,(zMM (jK y) a.l).2.2=fo:=⟨_,rfl⟩
 rw [ac]
 refine Evs ?_
 refine Wk ?_
 refine zc9 rfl (fun a7=>?_) (fun a7=>?_)
 ·have Z:zNF (jK x) a.l m f (d - 1)=none:=by
   rw [aa]
   have co:fo=false:=by revert a7;cases fo <;> simp
   show (if _ then _ else none)=none
   rw [← ey,ac,co];rfl
  have q:=ae (k+1) (by omega) (by rw [aj,Z])
  refine Wk ?_
  exact ⟨⟨0,⟨none,0,[]⟩⟩,by rw [q];rfl,by rw [q];rfl,zNO,jB (jB r G) H⟩
 obtain rfl:fo=true:=by revert a7;cases fo <;> simp
 refine Wk ?_
 refine zkr (zMr y a ch _ bu bv bt) rfl ?_
 rintro v h5 a8 ⟨p,rfl,ep,cp,mp⟩
 rw [am,bl] at ep
 have bw:zNF (jK x) a.l m f (d - 1)=some (jK (⟨f,d - 1,p⟩:DBranch)):=by
  rw [aa]
  show (if _ then _ else none)=_
  rw [← ey,if_pos ac,← ep];rfl
 rw [bw] at aj
 obtain ⟨cq,mb,dh,W5⟩:=zNP W hD hM hf (show I64 f by unfold I64;omega) (show I64 (d - 1) by unfold I64;omega) (jB G H) a8 cp mp
 obtain ⟨_,cr⟩:=W.grow (jB (jB G H) a8)
 have bz:IntKind.i64.wrap (d - 1+1)=d:=by rw [zjz (by omega)];omega
 try simp (maxSteps:=2000000) only [go_sem,jq,jj,jy,jv,jk,jx]
 repeat' first|refine zc8 ?_|(refine zc5 ?_;simp (maxSteps:=2000000) only [go_sem,jq,jj,jy,jv,jk,jx])|refine zc3 ?_
 first|refine zzr [0,0,0,0,0,0,0,3,0,0] rfl ?_|refine zzq [0,0,0,0,0,0,0,3,0,0] rfl ?_|(refine zc3 ?_;first|refine zzr [0,0,0,0,0,0,0,3,0,0] rfl ?_|refine zzq [0,0,0,0,0,0,0,3,0,0] rfl ?_)
 try simp (maxSteps:=2000000) only [go_sem,jq,jj,jy,jv,jk,jx]
 refine zD6 (s:=s) rfl W5.1 (fun g hg=>.inl (hf g hg)) ?_
 try simp (maxSteps:=2000000) only [go_sem,jq,jj,jy,jv,jk,jx]
 refine ⟨rfl,by simp only [maxLen];omega,by omega,fun ak O al P6=>?_⟩
 have ct:Pub (zD4 h5 s) 128 (wA DBranch) (s.l ++ [(⟨f,d - 1,p⟩:DBranch)]).length ((s.l ++ [(⟨f,d - 1,p⟩:DBranch)]).flatMap qx) ak O al:=by
  rw [jP,jF];exact P6
 obtain ⟨W6,d6,f6,_⟩:=W5.push cq ct
 have cu:(Sl.mk ak O (s.l ++ [(⟨f,d - 1,p⟩:DBranch)])).val=.slice ak (s.l.length+1) O:=by simp only [Sl.val,jP,jg]
 try simp (maxSteps:=2000000) only [go_sem,jq,jj,jy,jv,jk,jx]
 refine Wk ?_
 have b7:loAt n E (k+1)=d:=by
  rw [loAt,if_neg (Nat.succ_ne_zero k),uW,ah]
 refine ⟨((k+1,⟨ak,O,s.l ++ [⟨f,d - 1,p⟩]⟩),al),[0,1,2,3],⟨(by show k+1≤c.l.length+1;omega),br,W6,?_,?_,fun g hg=>?_,?_,?_⟩,(by show c.l.length+1 - (k+1) < c.l.length+1 - k;omega),?_⟩
 ·show h.le (zD4 al _)
  rw [d6];exact jB hD cr
 ·show Mines h (zD4 al _) _
  rw [d6];exact mb
 ·rcases f6 g hg with w|w
  ·cases hh:h g with
   | none=>rfl
   | some o9=>rw [jB (jB (jB r G) H) a8 g o9 hh] at w;cases w
  ·exact hf g w
 ·show brK _ _ _ _ _ (k+1)=some ((s.l ++ [_]).map jK)
  rw [aj,qB];rfl
 ·show (s.l ++ [_]).length=k+1
  rw [jP,bj];rfl
 simp (maxSteps:=2000000) only [go_sem,jq,jj,jy,jv,jk,jx,cu,b7,bz,zjA (show k < c.l.length+1 by omega) (by omega)]
 exact Gk
theorem zNT (x:DHarbour) (a:Sl DCall) (m:Int) (c:Sl Int) (h:Hp) (b:jD h x) (d:a.Ok h) (e:I64 m) (f:c.Ok h) (i:Sz.sz (jK c)≤1048576):Ct jV 19 [x.v,a.val,.int .i64 m,c.val] h fun v h' =>
  ∃ g:DStrategy,v=.tuple #[g.v,.bool (zNI (jK x) (jK a) m (jK c)).2]∧jK g=(zNI (jK x) (jK a) m (jK c)).1∧jD h' g∧Mine h h' g:=by
 rw [zB6,con_ints]
 refine zNR x a m c h b d e f ?_
 have:=znM i
 rwa [znP] at this
theorem zNU (x:DHarbour) (a:Sl DCall) (m:Int) (c:Sl Int) (h:Hp) (b:jD h x) (d:a.Ok h) (e:I64 m) (f:c.Ok h):Ct jV 15 [x.v,a.val,.int .i64 m,c.val] h fun v h' =>
  ∃ g:DStrategy,v=.tuple #[g.v,.bool (zNI (jK x) (jK a) m (jK c)).2]∧jK g=(zNI (jK x) (jK a) m (jK c)).1∧jD h' g∧h.le h':=by
 rw [zB6,con_ints]
 exact zNS x a m c h b d e f
theorem zNV {x:PHarbour} {c:List DCall} {m e:Int} {ends:List Int}:∀ {k:Nat} {f:List PBranch},brK x c m e ends k=some f→f.length=k∧∀ b ∈ f,Sz.sz b≤60
 | 0,f,h=>by
  rw [brK] at h
  rw [← Option.some.inj h]
  exact ⟨rfl,fun b n=>(by cases n)⟩
 | k+1,f,h=>by
  rw [brK] at h
  cases j:brK x c m e ends k with
  | none=>rw [j] at h;cases h
  | some l =>
   rw [j] at h
   obtain ⟨o,h2⟩:=zNV j
   cases d:zNF x c m (loAt e ends k) (ends.getD k 0 - 1) with
   | none=>rw [d] at h;cases h
   | some b =>
    rw [d] at h
    rw [← Option.some.inj h]
    refine ⟨by rw [jP,o];rfl,fun y g=>?_⟩
    rcases List.mem_append.1 g with g|g
    ·exact h2 y g
    ·rw [List.mem_singleton.1 g]
     rw [zNF] at d
     split at d
     ·split at d
      ·rw [← Option.some.inj d]
       rename_i i _ _
       obtain ⟨q,p⟩:=zMp (x:=i) (a:=c) (ch:=(zMM i c).1)
       have:=zHr p
       show Sz.sz (zLN i c (zMM i c).1).1≤60
       omega
      ·cases d
     ·cases d
theorem zNW (x:PHarbour) (b:List DCall) (m:Int) (a:List Int):Sz.sz (zNI x b m a).1≤1048576:=by
 rw [zNI]
 split
 ·rename_i c
  cases e:brK x b m (zL6 x.forecast m).low (a ++ [(zL6 x.forecast m).high+1]) (a.length+1) with
  | none=>exact Nat.le_of_ble_eq_true rfl
  | some d =>
   obtain ⟨f,h2⟩:=zNV e
   have g:=zHr h2
   rw [zNG,zNE] at c
   simp only [jJ,JD] at c
   have h:=c.2.2.1.1
   show Sz.sz (⟨m,d⟩:PStrategy)≤_
   rw [znQ]
   show Sz.sz d≤_
   omega
 ·exact Nat.le_of_ble_eq_true rfl
open Go Go.SL Go.RowKit Go.ChangeShapes Go.WideShapes Go.ChangeAt Go.Deep
theorem Tryz.own:ownKnob Tryz.prog.godebug=none:=by kernel_rfl
theorem Tryz.laidOut:laidOutB jV=true:=by kernel_rfl
theorem zNX:Tryz.prog.cellsOf 3=1:=by kernel_rfl
theorem zNY:Tryz.prog.cellsOf 4=1:=by kernel_rfl
theorem zNZ:Tryz.prog.cellsOf 9=1:=by kernel_rfl
theorem zN0:Opens Int jV 3:=zkv Tryz.underlying3
set_option maxRecDepth 100000 in
theorem zN1:Opens DCall jV 77:=by
 intro H enc w t s u y cs x h
 obtain ⟨b,a⟩:=zkx Tryz.underlying77 h
 have b:cs.length=5:=b.trans (by kernel_rfl)
 match cs,b with
 | [n,o,p,q,r],_ =>
  obtain ⟨c,d,z⟩:=zlD Tryz.underlying3 a 0 0 ⟨_,rfl,rfl,rfl⟩ zNX
  have d:[n]=[.int .i64 c]:=d
  obtain ⟨e,f,D⟩:=zlD Tryz.underlying3 a 1 1 ⟨_,rfl,rfl,rfl⟩ zNX
  have f:[o]=[.int .i64 e]:=f
  obtain ⟨g,i,F⟩:=zlD Tryz.underlying3 a 2 2 ⟨_,rfl,rfl,rfl⟩ zNX
  have i:[p]=[.int .i64 g]:=i
  obtain ⟨j,k,G⟩:=zlD Tryz.underlying3 a 3 3 ⟨_,rfl,rfl,rfl⟩ zNX
  have k:[q]=[.int .i64 j]:=k
  obtain ⟨l,m,J⟩:=zlD Tryz.underlying3 a 4 4 ⟨_,rfl,rfl,rfl⟩ zNX
  have m:[r]=[.int .i64 l]:=m
  have K:[n] ++ [o] ++ [p] ++ [q] ++ [r]=[.int .i64 c] ++ [.int .i64 e] ++ [.int .i64 g] ++ [.int .i64 j] ++ [.int .i64 l]:=by rw [d,f,i,k,m]
  exact ⟨⟨c,e,g,j,l⟩,K,z,D,F,G,J⟩
theorem zN2:Opens (Sl DCall) jV 40:=zkw Tryz.underlying40 (by kernel_rfl) zN1
theorem zN3:Tryz.prog.cellsOf 35=1:=by kernel_rfl
theorem opens_IntS:Opens (Sl Int) jV 35:=zkw Tryz.underlying35 (by kernel_rfl) zN0
theorem zN4:Tryz.prog.cellsOf 37=4:=by kernel_rfl
set_option maxRecDepth 100000 in
theorem opens_Crew:Opens DCrew jV 37:=by
 intro H enc w q p r s cs x h
 obtain ⟨b,a⟩:=zkx Tryz.underlying37 h
 have b:cs.length=4:=b.trans (by kernel_rfl)
 match cs,b with
 | [l,m,n,o],_ =>
  obtain ⟨c,d,t⟩:=zlD Tryz.underlying3 a 0 0 ⟨_,rfl,rfl,rfl⟩ zNX
  have d:[l]=[.int .i64 c]:=d
  obtain ⟨e,f,u⟩:=zlD Tryz.underlying3 a 1 1 ⟨_,rfl,rfl,rfl⟩ zNX
  have f:[m]=[.int .i64 e]:=f
  obtain ⟨g,i,y⟩:=zlD Tryz.underlying3 a 2 2 ⟨_,rfl,rfl,rfl⟩ zNX
  have i:[n]=[.int .i64 g]:=i
  obtain ⟨j,k,z⟩:=opens_IntS.field a 3 3 1 ⟨_,rfl,rfl,rfl⟩ zN3
  have k:[o]=qx j:=k
  have D:[l] ++ [m] ++ [n] ++ [o]=[.int .i64 c] ++ [.int .i64 e] ++ [.int .i64 g] ++ qx j:=by rw [d,f,i,k]
  exact ⟨⟨c,e,g,j⟩,D,t,u,y,z⟩
set_option maxRecDepth 100000 in
theorem zN5:Opens DPart jV 312:=by
 intro H enc w n m o p cs x h
 obtain ⟨a,b⟩:=zkx Tryz.underlying312 h
 have a:cs.length=3:=a.trans (by kernel_rfl)
 match cs,a with
 | [j,k,l],_ =>
  obtain ⟨c,d,q⟩:=zlD Tryz.underlying3 b 0 0 ⟨_,rfl,rfl,rfl⟩ zNX
  have d:[j]=[.int .i64 c]:=d
  obtain ⟨e,f,r⟩:=zlD Tryz.underlying3 b 1 1 ⟨_,rfl,rfl,rfl⟩ zNX
  have f:[k]=[.int .i64 e]:=f
  obtain ⟨g,i,s⟩:=zlD Tryz.underlying3 b 2 2 ⟨_,rfl,rfl,rfl⟩ zNX
  have i:[l]=[.int .i64 g]:=i
  have t:[j] ++ [k] ++ [l]=[.int .i64 c] ++ [.int .i64 e] ++ [.int .i64 g]:=by rw [d,f,i]
  exact ⟨⟨c,e,g⟩,t,q,r,s⟩
theorem zN6:Tryz.prog.cellsOf 22=1:=by kernel_rfl
theorem opens_PartS:Opens (Sl DPart) jV 22:=zkw Tryz.underlying22 (by kernel_rfl) zN5
theorem zN7:Tryz.prog.cellsOf 24=2:=by kernel_rfl
set_option maxRecDepth 100000 in
theorem opens_Tide:Opens DTide jV 24:=by
 intro H enc w k j l m cs x h
 obtain ⟨a,f⟩:=zkx Tryz.underlying24 h
 have a:cs.length=2:=a.trans (by kernel_rfl)
 match cs,a with
 | [g,i],_ =>
  obtain ⟨b,c,n⟩:=zlD Tryz.underlying3 f 0 0 ⟨_,rfl,rfl,rfl⟩ zNX
  have c:[g]=[.int .i64 b]:=c
  obtain ⟨d,e,o⟩:=opens_PartS.field f 1 1 1 ⟨_,rfl,rfl,rfl⟩ zN6
  have e:[i]=qx d:=e
  have p:[g] ++ [i]=[.int .i64 b] ++ qx d:=by rw [c,e]
  exact ⟨⟨b,d⟩,p,n,o⟩
set_option maxRecDepth 100000 in
theorem zN8:Opens DSurge jV 268:=by
 intro H enc w n m o p cs x h
 obtain ⟨a,b⟩:=zkx Tryz.underlying268 h
 have a:cs.length=3:=a.trans (by kernel_rfl)
 match cs,a with
 | [j,k,l],_ =>
  obtain ⟨c,d,q⟩:=zlD Tryz.underlying3 b 0 0 ⟨_,rfl,rfl,rfl⟩ zNX
  have d:[j]=[.int .i64 c]:=d
  obtain ⟨e,f,r⟩:=zlD Tryz.underlying3 b 1 1 ⟨_,rfl,rfl,rfl⟩ zNX
  have f:[k]=[.int .i64 e]:=f
  obtain ⟨g,i,s⟩:=zlD Tryz.underlying3 b 2 2 ⟨_,rfl,rfl,rfl⟩ zNX
  have i:[l]=[.int .i64 g]:=i
  have t:[j] ++ [k] ++ [l]=[.int .i64 c] ++ [.int .i64 e] ++ [.int .i64 g]:=by rw [d,f,i]
  exact ⟨⟨c,e,g⟩,t,q,r,s⟩
theorem zN9:Tryz.prog.cellsOf 25=1:=by kernel_rfl
theorem opens_SurgeS:Opens (Sl DSurge) jV 25:=zkw Tryz.underlying25 (by kernel_rfl) zN8
theorem zOa:Tryz.prog.cellsOf 27=3:=by kernel_rfl
set_option maxRecDepth 100000 in
theorem opens_Forecast:Opens DForecast jV 27:=by
 intro H enc w l k m n cs x h
 obtain ⟨a,f⟩:=zkx Tryz.underlying27 h
 have a:cs.length=3:=a.trans (by kernel_rfl)
 match cs,a with
 | [g,i,j],_ =>
  obtain ⟨b,c,o⟩:=opens_Tide.field f 0 0 2 ⟨_,rfl,rfl,rfl⟩ zN7
  have c:[g,i]=qx b:=c
  obtain ⟨d,e,p⟩:=opens_SurgeS.field f 1 2 1 ⟨_,rfl,rfl,rfl⟩ zN9
  have e:[j]=qx d:=e
  have q:[g,i] ++ [j]=qx b ++ qx d:=by rw [c,e]
  exact ⟨⟨b,d⟩,q,o,p⟩
set_option maxRecDepth 100000 in
theorem zOb:Opens DPoint jV 265:=by
 intro H enc w k j l m cs x h
 obtain ⟨a,f⟩:=zkx Tryz.underlying265 h
 have a:cs.length=2:=a.trans (by kernel_rfl)
 match cs,a with
 | [g,i],_ =>
  obtain ⟨b,c,n⟩:=zlF Tryz.underlying9 f 0 0 ⟨_,rfl,rfl,rfl⟩ zNZ
  have c:[g]=[.string b]:=c
  obtain ⟨d,e⟩:=zlE Tryz.underlying4 f 1 1 ⟨_,rfl,rfl,rfl⟩ zNY
  have e:[i]=[.bool d]:=e
  have o:[g] ++ [i]=[.string b] ++ [.bool d]:=by rw [c,e]
  exact ⟨⟨b,d⟩,o,n⟩
theorem zOc:Tryz.prog.cellsOf 28=1:=by kernel_rfl
theorem opens_PointS:Opens (Sl DPoint) jV 28:=zkw Tryz.underlying28 (by kernel_rfl) zOb
set_option maxRecDepth 100000 in
theorem zOd:Opens DSegment jV 271:=by
 intro H enc w t s u y cs x h
 obtain ⟨b,a⟩:=zkx Tryz.underlying271 h
 have b:cs.length=5:=b.trans (by kernel_rfl)
 match cs,b with
 | [n,o,p,q,r],_ =>
  obtain ⟨c,d,z⟩:=zlD Tryz.underlying3 a 0 0 ⟨_,rfl,rfl,rfl⟩ zNX
  have d:[n]=[.int .i64 c]:=d
  obtain ⟨e,f,D⟩:=zlD Tryz.underlying3 a 1 1 ⟨_,rfl,rfl,rfl⟩ zNX
  have f:[o]=[.int .i64 e]:=f
  obtain ⟨g,i,F⟩:=zlD Tryz.underlying3 a 2 2 ⟨_,rfl,rfl,rfl⟩ zNX
  have i:[p]=[.int .i64 g]:=i
  obtain ⟨j,k,G⟩:=zlD Tryz.underlying3 a 3 3 ⟨_,rfl,rfl,rfl⟩ zNX
  have k:[q]=[.int .i64 j]:=k
  obtain ⟨l,m⟩:=zlE Tryz.underlying4 a 4 4 ⟨_,rfl,rfl,rfl⟩ zNY
  have m:[r]=[.bool l]:=m
  have J:[n] ++ [o] ++ [p] ++ [q] ++ [r]=[.int .i64 c] ++ [.int .i64 e] ++ [.int .i64 g] ++ [.int .i64 j] ++ [.bool l]:=by rw [d,f,i,k,m]
  exact ⟨⟨c,e,g,j,l⟩,J,z,D,F,G⟩
theorem zOe:Tryz.prog.cellsOf 29=1:=by kernel_rfl
theorem opens_SegmentS:Opens (Sl DSegment) jV 29:=zkw Tryz.underlying29 (by kernel_rfl) zOd
theorem zOf:Tryz.prog.cellsOf 31=2:=by kernel_rfl
set_option maxRecDepth 100000 in
theorem opens_Chart:Opens DChart jV 31:=by
 intro H enc w k j l m cs x h
 obtain ⟨a,f⟩:=zkx Tryz.underlying31 h
 have a:cs.length=2:=a.trans (by kernel_rfl)
 match cs,a with
 | [g,i],_ =>
  obtain ⟨b,c,n⟩:=opens_PointS.field f 0 0 1 ⟨_,rfl,rfl,rfl⟩ zOc
  have c:[g]=qx b:=c
  obtain ⟨d,e,o⟩:=opens_SegmentS.field f 1 1 1 ⟨_,rfl,rfl,rfl⟩ zOe
  have e:[i]=qx d:=e
  have p:[g] ++ [i]=qx b ++ qx d:=by rw [c,e]
  exact ⟨⟨b,d⟩,p,n,o⟩
set_option maxRecDepth 100000 in
theorem zOg:Opens DShip jV 197:=by
 intro H enc w z y D F cs x h
 obtain ⟨b,a⟩:=zkx Tryz.underlying197 h
 have b:cs.length=6:=b.trans (by kernel_rfl)
 match cs,b with
 | [p,q,r,s,t,u],_ =>
  obtain ⟨c,d,G⟩:=zlF Tryz.underlying9 a 0 0 ⟨_,rfl,rfl,rfl⟩ zNZ
  have d:[p]=[.string c]:=d
  obtain ⟨e,f,J⟩:=zlD Tryz.underlying3 a 1 1 ⟨_,rfl,rfl,rfl⟩ zNX
  have f:[q]=[.int .i64 e]:=f
  obtain ⟨g,i,K⟩:=zlD Tryz.underlying3 a 2 2 ⟨_,rfl,rfl,rfl⟩ zNX
  have i:[r]=[.int .i64 g]:=i
  obtain ⟨j,k,M⟩:=zlD Tryz.underlying3 a 3 3 ⟨_,rfl,rfl,rfl⟩ zNX
  have k:[s]=[.int .i64 j]:=k
  obtain ⟨l,m,N⟩:=zlD Tryz.underlying3 a 4 4 ⟨_,rfl,rfl,rfl⟩ zNX
  have m:[t]=[.int .i64 l]:=m
  obtain ⟨n,o⟩:=zlE Tryz.underlying4 a 5 5 ⟨_,rfl,rfl,rfl⟩ zNY
  have o:[u]=[.bool n]:=o
  have O:[p] ++ [q] ++ [r] ++ [s] ++ [t] ++ [u]=[.string c] ++ [.int .i64 e] ++ [.int .i64 g] ++ [.int .i64 j] ++ [.int .i64 l] ++ [.bool n]:=by rw [d,f,i,k,m,o]
  exact ⟨⟨c,e,g,j,l,n⟩,O,G,J,K,M,N⟩
theorem zOh:Tryz.prog.cellsOf 32=1:=by kernel_rfl
theorem opens_ShipS:Opens (Sl DShip) jV 32:=zkw Tryz.underlying32 (by kernel_rfl) zOg
theorem zOi:Tryz.prog.cellsOf 34=2:=by kernel_rfl
set_option maxRecDepth 100000 in
theorem opens_Regime:Opens DRegime jV 34:=by
 intro H enc w k j l m cs x h
 obtain ⟨a,f⟩:=zkx Tryz.underlying34 h
 have a:cs.length=2:=a.trans (by kernel_rfl)
 match cs,a with
 | [g,i],_ =>
  obtain ⟨b,c,n⟩:=zlD Tryz.underlying3 f 0 0 ⟨_,rfl,rfl,rfl⟩ zNX
  have c:[g]=[.int .i64 b]:=c
  obtain ⟨d,e⟩:=zlE Tryz.underlying4 f 1 1 ⟨_,rfl,rfl,rfl⟩ zNY
  have e:[i]=[.bool d]:=e
  have o:[g] ++ [i]=[.int .i64 b] ++ [.bool d]:=by rw [c,e]
  exact ⟨⟨b,d⟩,o,n⟩
set_option maxRecDepth 100000 in
theorem zOj:Opens DHarbour jV 39:=by
 intro H enc w J G K M cs x h
 obtain ⟨d,a⟩:=zkx Tryz.underlying39 h
 have d:cs.length=12:=d.trans (by kernel_rfl)
 match cs,d with
 | [p,q,r,s,t,u,y,z,D,F,b,c],_ =>
  obtain ⟨e,f,N⟩:=opens_Forecast.field a 0 0 3 ⟨_,rfl,rfl,rfl⟩ zOa
  have f:[p,q,r]=qx e:=f
  obtain ⟨g,i,O⟩:=opens_Chart.field a 1 3 2 ⟨_,rfl,rfl,rfl⟩ zOf
  have i:[s,t]=qx g:=i
  obtain ⟨j,k,Q⟩:=opens_ShipS.field a 2 5 1 ⟨_,rfl,rfl,rfl⟩ zOh
  have k:[u]=qx j:=k
  obtain ⟨l,m,R⟩:=opens_Regime.field a 3 6 2 ⟨_,rfl,rfl,rfl⟩ zOi
  have m:[y,z]=qx l:=m
  obtain ⟨n,o,W⟩:=opens_Crew.field a 4 8 4 ⟨_,rfl,rfl,rfl⟩ zN4
  have o:[D,F,b,c]=qx n:=o
  have X:[p,q,r] ++ [s,t] ++ [u] ++ [y,z] ++ [D,F,b,c]=qx e ++ qx g ++ qx j ++ qx l ++ qx n:=by rw [f,i,k,m,o]
  exact ⟨⟨e,g,j,l,n⟩,X,N,O,Q,R,W⟩
end Go.Proofs.YtbkaaakphpbmiaaGreat
