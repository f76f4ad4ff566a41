/- What functions of the given program compute, as contracts. -/
import Derived.Test.YtbkaaakphpbmiaaGreatSGBestPlanx3
import Derived.Test.YtbkaaakphpbmiaaGreatXGBestPlan27
import Derived.Test.YtbkaaakphpbmiaaGreatXGBestPlan5
set_option linter.unusedVariables false
set_option linter.unusedSimpArgs false
set_option maxRecDepth 4000
open Nat renaming reduceAdd → jq, reduceMul → jj, reduceBEq → jy, reduceLeDiff → jv, reduceLT → jk, reduceEqDiff → jx
open Bool renaming or_eq_false_iff → jp, or_eq_true → jQ, and_eq_true → jJ
open Int renaming toNat_natCast → jW, natCast_nonneg → jY
open Go.Proofs.Tryz renaming prog → jV
namespace Go.Proofs.YtbkaaakphpbmiaaGreat
open Go Go.SL
set_option maxHeartbeats 1000000
def z0U (LP:List (List POption)) (n i:Nat):List Int:=(List.range (n+1)).map fun j=>if i≤j then zLs (LP.drop j) else 0
theorem z0V {LP:List (List POption)} {n i:Nat}:(z0U LP n i).length=n+1:=by rw [z0U,List.length_map,List.length_range]
theorem z0W {LP:List (List POption)} {n i j:Nat} (hj:j < (z0U LP n i).length):(z0U LP n i)[j]=if i≤j then zLs (LP.drop j) else 0:=by simp [z0U]
theorem z0X {LP:List (List POption)} {n:Nat} (hn:LP.length=n):z0U LP n n=List.replicate (n+1) 0:=by
 refine List.ext_getElem (by rw [z0V,List.length_replicate]) fun j h1 h2=>?_
 rw [z0W,List.getElem_replicate]
 split
 ·rw [List.drop_of_length_le (by omega),zLs]
 ·rfl
theorem z0Y {LP:List (List POption)} {n i:Nat} (hi:i < n):(z0U LP n (i+1)).set i (zLs (LP.drop i))=z0U LP n i:=by
 refine List.ext_getElem (by rw [List.length_set,z0V,z0V]) fun j h1 h2=>?_
 rw [List.getElem_set,z0W,z0W]
 by_cases e:i=j
 ·subst e;rw [if_pos rfl,if_pos (Nat.le_refl _)]
 ·rw [if_neg e]
  by_cases h:i≤j
  ·rw [if_pos h,if_pos (by omega)]
  ·rw [if_neg h,if_neg (by omega)]
theorem z0Z {LP:List (List POption)} (h:∀ l ∈ LP,l ≠ []∧∀ y ∈ l,0≤y.cost∧y.cost≤2880):0≤zLs LP∧zLs LP≤2880 * LP.length:=by
 induction LP with
 | nil=>simp [zLs]
 | cons l LP ih =>
  obtain ⟨d0,d1⟩:=ih fun y hy=>h y (List.mem_cons_of_mem _ hy)
  obtain ⟨h1,h2⟩:=h l (List.mem_cons_self ..)
  have hf:0≤flr l∧flr l≤2880:=by
   rcases zza l with ⟨e,_⟩|⟨c0,c1⟩
   ·exact (h1 e).elim
   ·rw [flr,if_neg (by omega)]
    exact h2 _ (zLk (by omega))
  rw [zLs,List.length_cons]
  push_cast
  omega
theorem z00 {LP:List (List POption)} (h:∀ l ∈ LP,∀ y ∈ l,0≤y.cost∧y.cost≤2880):-(LP.length:Int)≤zLs LP∧zLs LP≤2880 * LP.length:=by
 induction LP with
 | nil=>simp [zLs]
 | cons l LP ih =>
  obtain ⟨d0,d1⟩:=ih fun y hy=>h y (List.mem_cons_of_mem _ hy)
  have h2:=h l (List.mem_cons_self ..)
  have hf:-1≤flr l∧flr l≤2880:=by
   rw [flr]
   rcases zza l with ⟨e,c0⟩|⟨c0,c1⟩
   ·rw [if_pos (by omega)];omega
   ·rw [if_neg (by omega)]
    have:=h2 _ (zLk (k:=(zuC l).toNat) (by omega))
    omega
  rw [zLs,List.length_cons]
  push_cast
  omega
theorem z01 {e:TypeId} {h:Hp} {s:Sl Int} {i:Nat} {u:Int} (H:RowAt e h s) (hi:i < s.l.length) :
  ∃ g cur,s.a=some ⟨g,0,none⟩∧h g=some (.cells cur e (0,0))∧i+1≤cur.size∧RowAt e (h.ins g (.cells (spl i [.int .i64 u] cur.toList).toArray e (0,0))) ⟨s.a,s.cap,s.l.set i u⟩:=by
 obtain ⟨h1,h2,⟨ha,hl,hc⟩|⟨g,cur,ha,hb,hsz,htk⟩⟩:=H
 ·rw [hl] at hi;cases hi
 ·have hs1:Enc.size Int=1:=rfl
  rw [hs1,Nat.mul_one] at hsz htk
  refine ⟨g,cur,ha,hb,by omega,by rw [List.length_set];exact h1,h2,.inr ⟨g,_,ha,Hp.ins_same,?_,?_⟩⟩
  ·have hl:cur.toList.length=cur.size:=Array.length_toList
   simp only [spl,zbG,List.size_toArray,List.length_append,List.length_take,List.length_drop,List.length_cons,List.length_nil,hs1]
   omega
  ·rw [List.length_set,hs1,Nat.mul_one,znL,List.map_set]
   rw [znL] at htk
   have hsl:spl i [Value.int .i64 u] cur.toList=cur.toList.set i (.int .i64 u):=by
    unfold spl zbG
    exact znJ (by rw [Array.length_toList];omega)
   rw [hsl,List.take_set,htk]
theorem z02 {h:Hp} {s:Sl Int} {g:Nat} {o:Obj} (ha:s.a=some ⟨g,0,none⟩):znC (h.ins g o) s=znC h s:=by
 funext k
 simp only [znC,ha,Hp.del,Hp.ins]
 split <;> rfl
theorem z03 {x:PHarbour}:∀ {L:List (List POption)} {p:List POption} {ch:List Nat} {st:BSt} {r1:List Nat} {r2:Int},(∀ l ∈ L,l.length < 100)→(∀ y ∈ ch,y < 100)→(∀ r1 r2,st=some (r1,r2)→∀ y ∈ r1,y < 100)→srS x L p ch st=some (r1,r2)→∀ y ∈ r1,y < 100
 | [],p,ch,st,r1,r2,hL,hch,hst,h=>by
  rw [srS] at h
  split at h
  ·exact hst _ _ h
  ·split at h
   ·cases h;exact hch
   ·exact hst _ _ h
 | l :: L,p,ch,st,r1,r2,hL,hch,hst,h=>by
  rw [srS] at h
  split at h
  ·exact hst _ _ h
  ·have hl:=hL l (List.mem_cons_self ..)
   have key:∀ (ks:List Nat) (st:BSt),(∀ k ∈ ks,k < 100)→(∀ r1 r2,st=some (r1,r2)→∀ y ∈ r1,y < 100)→∀ r1 r2,ks.foldl (fun st k=>if zK6 x p (l.getD k zJX)=true then srS x L (p ++ [l.getD k zJX]) (ch ++ [k]) st else st) st=some (r1,r2)→∀ y ∈ r1,y < 100:=by
    intro ks
    induction ks with
    | nil=>intro st _ hs r1 r2 h;exact hs r1 r2 h
    | cons k ks ih =>
     intro st hks hs r1 r2 h
     rw [List.foldl_cons] at h
     refine ih _ (fun j hj=>hks j (List.mem_cons_of_mem _ hj)) (fun q1 q2 hq=>?_) r1 r2 h
     split at hq
     ·refine z03 (fun l hl=>hL l (List.mem_cons_of_mem _ hl)) (fun y hy=>?_) hs hq
      rcases List.mem_append.1 hy with hy|hy
      ·exact hch y hy
      ·rw [List.mem_singleton.1 hy];exact hks k (List.mem_cons_self ..)
     ·exact hs q1 q2 hq
   exact key _ st (fun k hk=>by have:=List.mem_range.1 hk;omega) hst r1 r2 h
theorem z04 {x:PHarbour} {LP:List (List POption)} (h:[] ∈ LP):zLz x LP=none:=by rw [zLz,if_pos h]
theorem z05 {x:PHarbour} {LP:List (List POption)} (h:[] ∉ LP):zLz x LP=srS x LP [] [] none:=by rw [zLz,if_neg h]
set_option maxRecDepth 30000 in
theorem z06 (x:DHarbour) (L:Sl (Sl DOption)) (h:Hp) (hx:Enc.ok h x) (hL:L.Ok h) (hL6:L.l.length≤6) (hLn:∀ l ∈ L.l,l.l.length≤90) (hLg:∀ l ∈ L.l,∀ y ∈ l.l,0≤y.cost∧y.cost≤2880∧Sz.sz (Con.con y)≤8) (hok:L.l ≠ []→zva (Con.con x.chart)=true∧zvl x.regime=true) :
  Ct jV 133 [x.v,L.val] h fun v h'=>∃ s:Sl Int,v=.tuple #[s.val,.int .i64 (zLB (zLz (Con.con x) (LL L))).2.1,.bool (zLB (zLz (Con.con x) (LL L))).2.2]∧s.l=(zLB (zLz (Con.con x) (LL L))).1∧s.Ok h'∧Mine h h' s:=by
 have hLm:=hL.max
 have hLL:(LL L).length=L.l.length:=by rw [LL,List.length_map]
 have hLc:∀ l ∈ LL L,∀ y ∈ l,0≤y.cost∧y.cost≤2880:=fun l hl y hy=>by
  obtain ⟨l',hl',rfl⟩:=List.mem_map.1 hl
  obtain ⟨y',hy',rfl⟩:=List.mem_map.1 hy
  have:=hLg l' hl' y' hy'
  exact ⟨this.1,this.2.1⟩
 have hrc:∀ i,-6≤zLs ((LL L).drop i)∧zLs ((LL L).drop i)≤17280:=fun i=>by
  have:=z00 (LP:=(LL L).drop i) fun l hl=>hLc l (List.mem_of_mem_drop hl)
  rw [List.length_drop] at this
  omega
 have hwl:IntKind.i64.wrap ((L.l.length:Int)+1)=((L.l.length+1:Nat):Int):=by rw [zjz (by omega)];rfl
 refine zdn (fun A W=>by simp) Tryz.func133 rfl rfl (by simp) fun W0=>?_
 refine Wk ?_
 refine zoc (ι:=Hp × Hp × Sl (Sl (Sl (Sl Bool))) × Sl Int) (fun t=>match t with|(h2,h1,cx,rs)=>⟨[(1,true,.c (.v L.val)),(4,true,.c (.v (.slice none 0 0))),(5,true,.c (.v (.int .i64 0))),(6,true,.c (.v (.bool false))),(7,true,.c (.p 0 0))],[(0,.box 258 [.v (.int .i64 x.forecast.tide.mean),.v x.forecast.tide.parts.val,.v x.forecast.surges.val,.v x.chart.points.val,.v x.chart.segments.val,.v x.fleet.val,.v (.int .i64 x.regime.gap),.v (.bool x.regime.noMeet),.v (.int .i64 x.crew.tugs),.v (.int .i64 x.crew.pilots),.v (.int .i64 x.crew.rest),.v x.crew.moves.val,.v L.val,.v cx.val,.v rs.val,.v (.slice none 0 0),.v (.int .i64 0),.v (.bool false)])],h2,1⟩) (fun t=>h.le t.2.1∧con4 t.2.2.1=z0K (cl x) L.l∧t.2.2.1.Ok t.2.1∧znC t.1 t.2.2.2=t.2.1∧RowAt 3 t.1 t.2.2.2∧t.2.2.2.l=List.replicate (L.l.length+1) (0:Int)) ?_ ?_
 ·refine znv rfl ?_
  refine U_t [0,1,2,3,5,6,7] rfl ?_
  simp only [go_sem,jq,jj,jy,jv,jk,jx,hwl]
  refine U_m 4 [8] ⟨?_,?_,trivial⟩
  ·refine U_b 4 0 [7,6,0] rfl rfl ?_
   simp only [go_sem,jq,jj,jy,jv,jk,jx,hwl]
   refine zkj (z0L x L _ hx hL hL6 hLn hok) rfl ?_
   rintro v h1 le1 ⟨cx,rfl,hcx,okc⟩
   try simp only [go_sem,jq,jj,jy,jv,jk,jx,hwl]
   refine U_1 8 0 [0] rfl rfl ?_
   simp only [go_sem,jq,jj,jy,jv,jk,jx,hwl]
   refine ⟨by simp only [maxLen];omega,by omega,?_⟩
   try simp only [go_sem,jq,jj,jy,jv,jk,jx,hwl]
   refine zn9 1 (List.replicate (L.l.length+1) (0:Int)) rfl rfl ?_ ?_ fun rs h2 e1 R f1 l1 k1=>?_
   ·rw [List.length_replicate]
   ·rw [znL,List.map_replicate]
    try rw [zj4]
   refine Evs ?_
   refine U_1 9 0 [] rfl rfl ?_
   simp only [go_sem,jq,jj,jy,jv,jk,jx,hwl]
   refine U_1 10 0 [] rfl rfl ?_
   simp only [go_sem,jq,jj,jy,jv,jk,jx,hwl]
   refine U_t [11] rfl ?_
   simp only [go_sem,jq,jj,jy,jv,jk,jx,hwl]
   refine U_d ?_
   refine ⟨(h2,h1,cx,rs),[2],⟨le1,hcx,okc,?_,R,e1⟩,?_⟩
   ·funext k
    rcases Classical.em (∃ a,rs.a=some a∧k=a.block) with ⟨a,ha,hk⟩|hn
    ·rw [hk,zZN ha]
     have hb:=R.blk a ha
     exact (f1 a.block (by rw [← hb];exact ha)).symm
    ·rw [zn0 (fun a ha hk=>hn ⟨a,ha,hk⟩)]
     exact k1 k fun g hg hk=>hn ⟨_,hg,hk⟩
   refine Evs ?_
   exact Gk
  ·refine U_b 8 0 [2,0] rfl rfl ?_
   simp only [go_sem,jq,jj,jy,jv,jk,jx,hwl]
   refine ⟨by simp only [maxLen];omega,by omega,?_⟩
   try simp only [go_sem,jq,jj,jy,jv,jk,jx,hwl]
   refine U_1 4 0 [0] rfl rfl ?_
   simp only [go_sem,jq,jj,jy,jv,jk,jx,hwl]
   refine zkj (z0L x L _ hx hL hL6 hLn hok) rfl ?_
   rintro v h1 le1 ⟨cx,rfl,hcx,okc⟩
   try simp only [go_sem,jq,jj,jy,jv,jk,jx,hwl]
   refine zn9 1 (List.replicate (L.l.length+1) (0:Int)) rfl rfl ?_ ?_ fun rs h2 e1 R f1 l1 k1=>?_
   ·rw [List.length_replicate]
   ·rw [znL,List.map_replicate]
    try rw [zj4]
   refine Evs ?_
   refine U_1 9 0 [] rfl rfl ?_
   simp only [go_sem,jq,jj,jy,jv,jk,jx,hwl]
   refine U_1 10 0 [] rfl rfl ?_
   simp only [go_sem,jq,jj,jy,jv,jk,jx,hwl]
   refine U_t [11] rfl ?_
   simp only [go_sem,jq,jj,jy,jv,jk,jx,hwl]
   refine U_d ?_
   refine ⟨(h2,h1,cx,rs),[2],⟨le1,hcx,okc,?_,R,e1⟩,?_⟩
   ·funext k
    rcases Classical.em (∃ a,rs.a=some a∧k=a.block) with ⟨a,ha,hk⟩|hn
    ·rw [hk,zZN ha]
     have hb:=R.blk a ha
     exact (f1 a.block (by rw [← hb];exact ha)).symm
    ·rw [zn0 (fun a ha hk=>hn ⟨a,ha,hk⟩)]
     exact k1 k fun g hg hk=>hn ⟨_,hg,hk⟩
   refine Evs ?_
   exact Gk
 rintro ⟨h2,h1,cx,rs0⟩ ⟨le1,hcx,okc,hdr,R0,er0⟩
 simp only at le1 hcx okc hdr R0 er0
 have le2:h1.le h2:=by rw [← hdr];exact znY
 refine Wk ?_
 refine zoe (ι:=Nat × Hp × Sl Int) (fun t=>⟨[(1,true,.c (.v L.val)),(4,true,.c (.v (.slice none 0 0))),(5,true,.c (.v (.int .i64 0))),(6,true,.c (.v (.bool false))),(7,true,.c (.p 0 0)),(8,true,.c (.v (.int .i64 ((t.1:Int) - 1))))],[(0,.box 258 [.v (.int .i64 x.forecast.tide.mean),.v x.forecast.tide.parts.val,.v x.forecast.surges.val,.v x.chart.points.val,.v x.chart.segments.val,.v x.fleet.val,.v (.int .i64 x.regime.gap),.v (.bool x.regime.noMeet),.v (.int .i64 x.crew.tugs),.v (.int .i64 x.crew.pilots),.v (.int .i64 x.crew.rest),.v x.crew.moves.val,.v L.val,.v cx.val,.v t.2.2.val,.v (.slice none 0 0),.v (.int .i64 0),.v (.bool false)])],t.2.1,1⟩) (fun t=>t.1≤L.l.length∧(∀ j (hj:j < L.l.length),t.1≤j→L.l[j].l ≠ [])∧RowAt 3 t.2.1 t.2.2∧t.2.2.l=z0U (LL L) L.l.length t.1∧znC t.2.1 t.2.2=h1) (fun t=>t.1) (L.l.length,h2,rs0) ⟨Nat.le_refl _,fun j hj hij=>by omega,R0,by rw [er0,z0X hLL],hdr⟩ [0] ?_ ?_
 ·refine Evs ?_
  repeat' first|exact zjB (zjz (by omega))|exact rfl|exact trivial|assumption|decide|refine And.intro ?_ ?_
 rintro ⟨i,hk,rs⟩ ⟨hi,hne,R,er,hdk⟩
 simp only at hi hne R er hdk
 have lek:h1.le hk:=by rw [← hdk];exact znY
 have hLo:=hL.mono (Hp.le_trans le1 lek)
 have hrl:rs.l.length=L.l.length+1:=by rw [er,z0V]
 have hI:∀ y ∈ rs.l,I64 y:=fun y hy=>by
  rw [er,z0U] at hy
  obtain ⟨j,_,rfl⟩:=List.mem_map.1 hy
  have:=hrc j
  show I64 _
  unfold I64
  split <;> omega
 have rok:rs.Ok hk:=R.ok (by decide) hI
 refine Wk ?_
 refine zc9 rfl (fun hd=>?_) (fun hd=>?_)
 ·obtain ⟨k,rfl⟩:∃ k,i=k+1:=⟨i - 1,by have:=of_decide_eq_true hd;omega⟩
  have hk1:(((k+1:Nat):Int) - 1)=(k:Int):=by omega
  rw [hk1]
  have hlt:k < L.l.length:=by omega
  have hlti:(k:Int) < L.l.length:=by omega
  have hlo:=hLo.el hlt
  repeat' first|refine Wa ?_|(simp only [go_sem,jq,jj,jy,jv,jk,jx,zku hLo hlt,hLo.some hlt,hlt,hlti,jW,jY,implies_true,true_and,and_true,and_self];try rfl)|refine Wb ?_|fail
  refine zhF (fun _=>zY0 L.l[k] _ hlo) ?_
  refine Wk ?_
  have hgk:(LL L)[k]'(by omega)=L.l[k].l.map (Con.con (α:=DOption)):=by simp [LL]
  refine zc9 rfl (fun hq=>?_) (fun hq=>?_)
  ·have hq:=of_decide_eq_true hq
   have hnil:[] ∈ LL L:=by
    rcases zza (L.l[k].l.map (Con.con (α:=DOption))) with ⟨e,_⟩|⟨c0,c1⟩
    ·rw [← e,← hgk];exact List.getElem_mem _
    ·have hq:zuC (L.l[k].l.map Con.con) < 0:=hq
     omega
   rw [z04 hnil]
   refine Wk ?_
   exact ⟨⟨none,0,[]⟩,rfl,rfl,zmo,Mine.nil⟩
  have hq:¬ zuC (L.l[k].l.map Con.con) < 0:=of_decide_eq_false hq
  obtain ⟨cn,hcn⟩:∃ cn:Nat,zuC (L.l[k].l.map (Con.con (α:=DOption)))=cn:=⟨(zuC (L.l[k].l.map Con.con)).toNat,by omega⟩
  have hck:cn < L.l[k].l.length:=by
   rcases zza (L.l[k].l.map (Con.con (α:=DOption))) with ⟨e,c0⟩|⟨c0,c1⟩
   ·omega
   ·rw [List.length_map] at c1;omega
  have hcki:(cn:Int) < L.l[k].l.length:=by omega
  have hcon:Con.con L.l[k]=L.l[k].l.map (Con.con (α:=DOption)):=rfl
  rw [hcon,hcn]
  have hwi:IntKind.i64.wrap ((k:Int)+1)=((k+1:Nat):Int):=by rw [zjz (by omega)];rfl
  have hri:k+1 < rs.l.length:=by omega
  have hrii:((k+1:Nat):Int) < rs.l.length:=by omega
  have hr0:k < rs.l.length:=by omega
  have hr0i:(k:Int) < rs.l.length:=by omega
  have hgr:rs.l[k+1]=zLs ((LL L).drop (k+1)):=by
   have:rs.l[k+1]=(z0U (LL L) L.l.length (k+1))[k+1]'(by rw [z0V];omega):=by simp only [er]
   rw [this,z0W,if_pos (Nat.le_refl _)]
  have hfl:flr (L.l[k].l.map (Con.con (α:=DOption)))=L.l[k].l[cn].cost:=by
   rw [flr,hcn,if_neg (by omega),jW]
   simp [List.getD_eq_getElem?_getD,hck]
   rfl
  have hdc:zLs ((LL L).drop k)=zLs ((LL L).drop (k+1))+L.l[k].l[cn].cost:=by
   rw [zMo hlt,zLs,hfl]
  have hws:IntKind.i64.wrap (zLs ((LL L).drop (k+1))+L.l[k].l[cn].cost)=zLs ((LL L).drop k):=by
   have:=hrc k
   rw [← hdc,zjz (by omega)]
  obtain ⟨g,cur,ga,gb,gsz,R'⟩:=z01 (u:=zLs ((LL L).drop k)) R hr0
  have hat1:=zku hLo hlt
  have hat2:=zkv rok hri
  simp only [Nat.mul_one] at hat1 hat2
  simp only [ga,Option.map_some,za4,Nat.zero_add] at hat2
  have hfs:=zlP hlo hck
  have hgn:h g=none:=zmx le1 (by rw [← hdk];exact zZN (a:=⟨g,0,none⟩) ga)
  refine Wk ?_
  refine znv rfl ?_
  refine U_t [0,4,5,9,13,14,17,1,6,10,15,2,7,16,3,8,18,11,19,12,20,21,22] rfl ?_
  simp only [go_sem,jq,jj,jy,jv,jk,jx,ga,hat2,hfs,hat1,hgr,hri,hrii,hr0,hr0i,hwi,hlt,hlti,hLo.some hlt,hck,hcki,Sl.Ok.some hlo hck,hws,Option.map_some,za4,Option.isSome_some,jW,jY,Nat.mul_one,Nat.zero_add,Nat.add_zero,List.toList_toArray,implies_true,true_and,and_true,and_self,true_or]
  refine U_1 23 1 [] rfl rfl ?_
  simp only [go_sem,jq,jj,jy,jv,jk,jx,ga,hat2,hfs,hat1,hgr,hri,hrii,hr0,hr0i,hwi,hlt,hlti,hLo.some hlt,hck,hcki,Sl.Ok.some hlo hck,hws,Option.map_some,za4,Option.isSome_some,jW,jY,Nat.mul_one,Nat.zero_add,Nat.add_zero,List.toList_toArray,implies_true,true_and,and_true,and_self,true_or]
  refine zlC (by simp only [go_sem]) (by simp only [go_sem]) rfl rfl gb (.inl hgn) gsz ?_
  try simp only [go_sem,jq,jj,jy,jv,jk,jx]
  refine U_d ?_
  refine Wk ?_
  refine ⟨(k,hk.ins g (.cells (spl k [.int .i64 (zLs ((LL L).drop k))] cur.toList).toArray 3 (0,0)),Sl.mk rs.a rs.cap (rs.l.set k (zLs ((LL L).drop k)))),[0],⟨by omega,fun j hj hkj=>?_,R',by simp only;rw [er,z0Y hlt],?_⟩,by simp only;omega,?_⟩
  ·rcases Nat.lt_or_ge k j with h9|h9
   ·exact hne j hj (by omega)
   ·obtain rfl:j=k:=by omega
    intro e
    rw [e] at hck
    cases hck
  ·simp only
   rw [show znC _ (Sl.mk rs.a rs.cap (rs.l.set k (zLs ((LL L).drop k))))=znC _ rs from rfl,z02 ga,hdk]
  refine Evs ?_
  simp only [Sl.val,List.length_set]
  repeat' first|exact zjB (zjz (by omega))|exact rfl|exact trivial|assumption|decide|refine And.intro ?_ ?_
 ·have hi0:i=0:=by have:=of_decide_eq_false hd;omega
  subst hi0
  have hnn:[] ∉ LL L:=fun hm=>by
   obtain ⟨l,hl,e⟩:=List.mem_map.1 hm
   obtain ⟨j,hj,rfl⟩:=List.getElem_of_mem hl
   exact hne j hj (Nat.zero_le _) (List.map_eq_nil_iff.1 e)
  rw [z05 hnn]
  refine zc6 ?_
  refine Evs ?_
  refine zmE 0 rfl rfl fun g hg hown=>?_
  refine Evs ?_
  have lehk:=Hp.le_trans le1 lek
  have K0:SK hk (hk.ins g (.cells (skC x L cx rs (Sl.mk none 0 []) 0 false).toArray 258 (0,0))) g x L cx rs (Sl.mk none 0 []) 0 false :=
   ⟨Hp.ins_le hg,Enc.mono lehk hx,hL.mono lehk,okc.mono lek,rok,hg,Hp.ins_same,⟨⟨Nat.le_refl _,Nat.zero_le _,.inl ⟨rfl,rfl,rfl⟩⟩,fun g hg=>(by cases hg)⟩⟩
  first|refine zmR [0,2,1] rfl ?_|refine zmQ [0,2,1] rfl ?_|(refine zc3 ?_;first|refine zmR [0,2,1] rfl ?_|refine zmQ [0,2,1] rfl ?_)
  refine Evs ?_
  intro ad cap h3 P
  have P':Pub _ 3 (Enc.size Int) ([]:List Int).length (([]:List Int).flatMap Enc.enc) ad cap h3:=P
  have K1:=K0.grow P'.le
  have cok:(Sl.mk ad cap ([]:List Int)).Ok (h3.del g):=by
   obtain ⟨R9,f9,_⟩:=P'.row
   refine RowAt.ok (s:=Sl.mk ad cap ([]:List Int)) (e:=3) (by decide) (R9.keep fun b hb=>?_) fun y hy=>(by cases hy)
   simp only [Hp.del]
   rw [if_neg fun e=>by
    have:=f9 b hb
    rw [e,Hp.ins_same] at this
    cases this]
  have hrs:∀ i (hi:i < rs.l.length),rs.l[i]=zLs ((LL L).drop i):=fun i hi=>by
   have:rs.l[i]=(z0U (LL L) L.l.length 0)[i]'(by rw [z0V];omega):=by simp only [er]
   rw [this,z0W,if_pos (Nat.zero_le _)]
  have hrb:∀ i,0≤zLs ((LL L).drop i)∧zLs ((LL L).drop i)≤100000:=fun i=>by
   have:=z0Z (LP:=(LL L).drop i) fun l hl=>⟨fun e=>hnn (by rw [← e];exact List.mem_of_mem_drop hl),hLc l (List.mem_of_mem_drop hl)⟩
   have:=hrc i
   omega
  refine zli (z0T hk g x L cx rs hL6 hLn hLg hcx hrl hrs hrb L.l.length [] [] (Sl.mk ad cap ([]:List Int)) (Sl.mk none 0 []) 0 false none h3 K1 rfl cok rfl (Nat.zero_add _) ⟨rfl,fun i hi=>(by cases hi)⟩) rfl (fun k hk=>by rw [hk];exact ⟨K1.nbx,.inr hown⟩) ?_
  rintro v h6 kp ⟨be6,m6,fo6,H6,hB6⟩
  obtain ⟨q3,q5,q8,q12,q13,q14,q15,q16,q17⟩:=z0O H6.bx
  have hB6:BSS (srS (Con.con x) (LL L) [] [] none) be6 m6 fo6:=hB6
  repeat' first|refine Wa ?_|(simp only [go_sem,jq,jj,jy,jv,jk,jx,q17,true_or,true_and,and_true,implies_true];try rfl)|refine Wb ?_|fail
  refine zc9 rfl (fun hz=>?_) (fun hz=>?_)
  ·have hno:srS (Con.con x) (LL L) [] [] none=none:=by
    cases hr:srS (Con.con x) (LL L) [] [] none with
    | none=>rfl
    | some r =>
     rw [hr] at hB6
     rw [hB6.1] at hz
     cases hz
   rw [hno]
   refine Wk ?_
   exact ⟨⟨none,0,[]⟩,rfl,rfl,zmo,Mine.nil⟩
  ·cases hr:srS (Con.con x) (LL L) [] [] none with
   | none =>
    rw [hr] at hB6
    rw [show fo6=false from hB6] at hz
    cases hz
   | some r =>
    obtain ⟨r1,r2⟩:=r
    rw [hr] at hB6
    obtain ⟨b1,b2,b3⟩:=hB6
    refine Wk ?_
    refine znv rfl ?_
    refine U_t [0,4,1,5,2,6,3,7,8,9,10] rfl ?_
    simp only [go_sem,jq,jj,jy,jv,jk,jx,q3,q5,q8,q12,q13,q14,q15,q16,q17,true_or,true_and,and_true,implies_true]
    refine U_d ?_
    refine Wk ?_
    have hlt:=z03 (fun l hl=>by
     obtain ⟨z,hz,rfl⟩:=List.mem_map.1 hl
     rw [List.length_map];exact Nat.lt_of_le_of_lt (hLn z hz) (by decide)) (fun y hy=>(by cases hy)) (fun _ _ h=>by cases h) hr
    refine ⟨be6,by rw [b3];rfl,b2,H6.rb.1.ok (by decide) fun y hy=>?_,zBe H6.rb.1 fun g hg=>zmx lehk (H6.rb.2 g hg).1⟩
    rw [b2] at hy
    obtain ⟨z,hz,rfl⟩:=List.mem_map.1 hy
    have:=hlt z hz
    show I64 _;unfold I64;omega
set_option maxRecDepth 30000 in
theorem z07 (x:DHarbour) (a:Sl DCall) (h:Hp) (hx:Enc.ok h x) (ha:a.Ok h):Ct jV 57 [x.v,a.val] h fun v h'=>∃ s:Sl Int,v=.tuple #[s.val,.int .i64 (zLC (Con.con x) (Con.con a)).2.1,.bool (zLC (Con.con x) (Con.con a)).2.2]∧Con.con s=(zLC (Con.con x) (Con.con a)).1∧s.Ok h'∧Mine h h' s:=by
 rw [zJK]
 refine zdn (fun A W=>by simp) Tryz.func57 rfl rfl (by simp) fun W0=>?_
 repeat' first|refine Wa ?_|refine zhF (fun _=>zZh x a _ hx ha) ?_|(simp only [go_sem,jq,jj,jy,jv,jk,jx];try rfl)|refine Wb ?_|fail
 rw [zJK]
 refine zc9 rfl (fun hc=>?_) (fun hc=>?_)
 ·rw [Bool.not_eq_true'] at hc
  have hF:zLC (Con.con x) a.l=([],0,false):=by rw [zLC,if_neg (by rw [hc];exact Bool.false_ne_true)]
  rw [hF]
  refine Wk ?_
  exact ⟨⟨none,0,[]⟩,rfl,rfl,zmo,Mine.nil⟩
 rw [Bool.not_eq_false'] at hc
 have h6:=zKv hc
 have hz:a.l.length≤1048576:=by omega
 obtain ⟨hR,hC⟩:=zLN hc
 have hR:zvl x.regime=true:=hR
 have hC:zva (Con.con x.chart)=true:=hC
 have hw:=zLe hc
 have hfl:(Con.con x).fleet=x.fleet.l:=zu4 _
 have hB:zLz (Con.con x) (zKs (Con.con x) a.l)=srI (Con.con x) (zKs (Con.con x) a.l) [] [] none:=zLA hw (fun l hl o ho=>by
  rw [zKs] at hl
  obtain ⟨d,_,rfl⟩:=List.mem_map.1 hl
  rw [hfl];exact zBK o ho) (fun l hl o ho=>by
  rw [zKs] at hl
  obtain ⟨d,_,rfl⟩:=List.mem_map.1 hl
  exact (zzu o ho).1) (by rw [zKu];omega)
 rw [zLC,if_pos hc,← hB]
 refine Wk ?_
 refine znv rfl ?_
 refine U_t [0,1,2] rfl ?_
 refine Evs ?_
 refine U_1 3 0 [0] rfl rfl ?_
 refine Evs ?_
 refine zkj (z0G x a _ hx ha hz) rfl ?_
 rintro v h1 le1 ⟨L,rfl,eL,okL,mL⟩
 try simp only [go_sem,jq,jj,jy,jv,jk,jx]
 refine U_1 4 0 [] rfl rfl ?_
 refine Evs ?_
 obtain ⟨g1,g2,g3⟩:=zMv eL
 have hlL:L.l.length=a.l.length:=by have:=congrArg List.length eL;rwa [List.length_map,zKu] at this
 refine zkj (z06 x L _ (Enc.mono le1 hx) okL (by omega) g1 g3 (fun _=>⟨hC,hR⟩)) rfl ?_
 rintro v h2 le2 ⟨s,rfl,es,oks,ms⟩
 try simp only [go_sem,jq,jj,jy,jv,jk,jx]
 refine U_t [5,6,7,8,9,10] rfl ?_
 refine Evs ?_
 refine U_d ?_
 refine Wk ?_
 have hL:LL L=zKs (Con.con x) a.l:=eL
 rw [hL] at es ⊢
 exact ⟨s,rfl,con_ints.trans es,oks,ms.back le1⟩
theorem z08 {x:PHarbour} {N:Nat}:∀ {L:List (List POption)} {p:List POption} {ch:List Nat} {st:BSt} {r1:List Nat} {r2:Int},ch.length+L.length=N→(∀ r1 r2,st=some (r1,r2)→r1.length=N)→srI x L p ch st=some (r1,r2)→r1.length=N
 | [],p,ch,st,r1,r2,hch,hst,h=>by
  rw [srI] at h
  split at h
  ·exact hst _ _ h
  ·cases h;exact hch
 | l :: L,p,ch,st,r1,r2,hch,hst,h=>by
  rw [srI] at h
  rw [List.length_cons] at hch
  split at h
  ·exact hst _ _ h
  ·have key:∀ (ks:List Nat) (st:BSt),(∀ r1 r2,st=some (r1,r2)→r1.length=N)→∀ r1 r2,ks.foldl (fun st k=>if zK7 x p (l.getD k zJX)=true then srI x L (p ++ [l.getD k zJX]) (ch ++ [k]) st else st) st=some (r1,r2)→r1.length=N:=by
    intro ks
    induction ks with
    | nil=>intro st hs r1 r2 h;exact hs r1 r2 h
    | cons k ks ih =>
     intro st hs r1 r2 h
     rw [List.foldl_cons] at h
     refine ih _ (fun q1 q2 hq=>?_) r1 r2 h
     split at hq
     ·exact z08 (by rw [List.length_append,List.length_singleton];omega) hs hq
     ·exact hs q1 q2 hq
   exact key _ st hst r1 r2 h
theorem zMx (w:List Nat):Sz.sz (zs w)=w.length:=by
 rw [zmu,zAH]
 have:((zs w).map Sz.sz).sum=0:=by
  induction w with
  | nil=>rfl
  | cons x w ih=>rw [show zs (x :: w)=(x:Int) :: zs w from rfl,List.map_cons,List.sum_cons,ih];rfl
 omega
theorem z09 (x:PHarbour) (a:List DCall):Sz.sz (zLC x a).1≤1048576:=by
 rw [zLC]
 split
 ·rename_i hc
  have h6:=zKv hc
  cases hr:srI x (zKs x a) [] [] none with
  | none=>exact Nat.zero_le _
  | some r =>
   obtain ⟨r1,r2⟩:=r
   have:=z08 (N:=a.length) (by rw [List.length_nil,zKu];omega) (fun _ _ h=>by cases h) hr
   show Sz.sz (zs r1)≤_
   rw [zMx]
   omega
 ·exact Nat.zero_le _
open Go Go.SL Go.RowKit Go.ChangeShapes Go.WideShapes Go.ChangeAt Go.Deep
theorem Tryz.own:ownKnob Tryz.prog.godebug=none:=by kernel_rfl
theorem Tryz.laidOut:laidOutB jV=true:=by kernel_rfl
theorem z1a:Tryz.prog.cellsOf 3=1:=by kernel_rfl
theorem z1b:Tryz.prog.cellsOf 4=1:=by kernel_rfl
theorem z1c:Tryz.prog.cellsOf 9=1:=by kernel_rfl
theorem z1d:Opens Int jV 3:=zOG Tryz.underlying3
set_option maxRecDepth 100000 in
theorem z1e:Opens DCall jV 77:=by
 intro H enc w base spare held fuel cs x h
 obtain ⟨hl,hf⟩:=zOH Tryz.underlying77 h
 have hl:cs.length=5:=hl.trans (by kernel_rfl)
 match cs,hl with
 | [c0,c1,c2,c3,c4],_ =>
  obtain ⟨a0,e0,o0⟩:=zOV Tryz.underlying3 hf 0 0 ⟨_,rfl,rfl,rfl⟩ z1a
  have e0:[c0]=[.int .i64 a0]:=e0
  obtain ⟨a1,e1,o1⟩:=zOV Tryz.underlying3 hf 1 1 ⟨_,rfl,rfl,rfl⟩ z1a
  have e1:[c1]=[.int .i64 a1]:=e1
  obtain ⟨a2,e2,o2⟩:=zOV Tryz.underlying3 hf 2 2 ⟨_,rfl,rfl,rfl⟩ z1a
  have e2:[c2]=[.int .i64 a2]:=e2
  obtain ⟨a3,e3,o3⟩:=zOV Tryz.underlying3 hf 3 3 ⟨_,rfl,rfl,rfl⟩ z1a
  have e3:[c3]=[.int .i64 a3]:=e3
  obtain ⟨a4,e4,o4⟩:=zOV Tryz.underlying3 hf 4 4 ⟨_,rfl,rfl,rfl⟩ z1a
  have e4:[c4]=[.int .i64 a4]:=e4
  have ee:[c0] ++ [c1] ++ [c2] ++ [c3] ++ [c4]=[.int .i64 a0] ++ [.int .i64 a1] ++ [.int .i64 a2] ++ [.int .i64 a3] ++ [.int .i64 a4]:=by rw [e0,e1,e2,e3,e4]
  exact ⟨⟨a0,a1,a2,a3,a4⟩,ee,o0,o1,o2,o3,o4⟩
theorem z1f:Opens (Sl DCall) jV 40:=zkn Tryz.underlying40 (by kernel_rfl) z1e
theorem z1g:Tryz.prog.cellsOf 35=1:=by kernel_rfl
theorem opens_IntS:Opens (Sl Int) jV 35:=zkn Tryz.underlying35 (by kernel_rfl) z1d
theorem z1h:Tryz.prog.cellsOf 37=4:=by kernel_rfl
set_option maxRecDepth 100000 in
theorem opens_Crew:Opens DCrew jV 37:=by
 intro H enc w base spare held fuel cs x h
 obtain ⟨hl,hf⟩:=zOH Tryz.underlying37 h
 have hl:cs.length=4:=hl.trans (by kernel_rfl)
 match cs,hl with
 | [c0,c1,c2,c3],_ =>
  obtain ⟨a0,e0,o0⟩:=zOV Tryz.underlying3 hf 0 0 ⟨_,rfl,rfl,rfl⟩ z1a
  have e0:[c0]=[.int .i64 a0]:=e0
  obtain ⟨a1,e1,o1⟩:=zOV Tryz.underlying3 hf 1 1 ⟨_,rfl,rfl,rfl⟩ z1a
  have e1:[c1]=[.int .i64 a1]:=e1
  obtain ⟨a2,e2,o2⟩:=zOV Tryz.underlying3 hf 2 2 ⟨_,rfl,rfl,rfl⟩ z1a
  have e2:[c2]=[.int .i64 a2]:=e2
  obtain ⟨a3,e3,o3⟩:=opens_IntS.field hf 3 3 1 ⟨_,rfl,rfl,rfl⟩ z1g
  have e3:[c3]=Enc.enc a3:=e3
  have ee:[c0] ++ [c1] ++ [c2] ++ [c3]=[.int .i64 a0] ++ [.int .i64 a1] ++ [.int .i64 a2] ++ Enc.enc a3:=by rw [e0,e1,e2,e3]
  exact ⟨⟨a0,a1,a2,a3⟩,ee,o0,o1,o2,o3⟩
set_option maxRecDepth 100000 in
theorem z1i:Opens DPart jV 312:=by
 intro H enc w base spare held fuel cs x h
 obtain ⟨hl,hf⟩:=zOH Tryz.underlying312 h
 have hl:cs.length=3:=hl.trans (by kernel_rfl)
 match cs,hl with
 | [c0,c1,c2],_ =>
  obtain ⟨a0,e0,o0⟩:=zOV Tryz.underlying3 hf 0 0 ⟨_,rfl,rfl,rfl⟩ z1a
  have e0:[c0]=[.int .i64 a0]:=e0
  obtain ⟨a1,e1,o1⟩:=zOV Tryz.underlying3 hf 1 1 ⟨_,rfl,rfl,rfl⟩ z1a
  have e1:[c1]=[.int .i64 a1]:=e1
  obtain ⟨a2,e2,o2⟩:=zOV Tryz.underlying3 hf 2 2 ⟨_,rfl,rfl,rfl⟩ z1a
  have e2:[c2]=[.int .i64 a2]:=e2
  have ee:[c0] ++ [c1] ++ [c2]=[.int .i64 a0] ++ [.int .i64 a1] ++ [.int .i64 a2]:=by rw [e0,e1,e2]
  exact ⟨⟨a0,a1,a2⟩,ee,o0,o1,o2⟩
theorem z1j:Tryz.prog.cellsOf 22=1:=by kernel_rfl
theorem opens_PartS:Opens (Sl DPart) jV 22:=zkn Tryz.underlying22 (by kernel_rfl) z1i
theorem z1k:Tryz.prog.cellsOf 24=2:=by kernel_rfl
set_option maxRecDepth 100000 in
theorem opens_Tide:Opens DTide jV 24:=by
 intro H enc w base spare held fuel cs x h
 obtain ⟨hl,hf⟩:=zOH Tryz.underlying24 h
 have hl:cs.length=2:=hl.trans (by kernel_rfl)
 match cs,hl with
 | [c0,c1],_ =>
  obtain ⟨a0,e0,o0⟩:=zOV Tryz.underlying3 hf 0 0 ⟨_,rfl,rfl,rfl⟩ z1a
  have e0:[c0]=[.int .i64 a0]:=e0
  obtain ⟨a1,e1,o1⟩:=opens_PartS.field hf 1 1 1 ⟨_,rfl,rfl,rfl⟩ z1j
  have e1:[c1]=Enc.enc a1:=e1
  have ee:[c0] ++ [c1]=[.int .i64 a0] ++ Enc.enc a1:=by rw [e0,e1]
  exact ⟨⟨a0,a1⟩,ee,o0,o1⟩
set_option maxRecDepth 100000 in
theorem z1l:Opens DSurge jV 268:=by
 intro H enc w base spare held fuel cs x h
 obtain ⟨hl,hf⟩:=zOH Tryz.underlying268 h
 have hl:cs.length=3:=hl.trans (by kernel_rfl)
 match cs,hl with
 | [c0,c1,c2],_ =>
  obtain ⟨a0,e0,o0⟩:=zOV Tryz.underlying3 hf 0 0 ⟨_,rfl,rfl,rfl⟩ z1a
  have e0:[c0]=[.int .i64 a0]:=e0
  obtain ⟨a1,e1,o1⟩:=zOV Tryz.underlying3 hf 1 1 ⟨_,rfl,rfl,rfl⟩ z1a
  have e1:[c1]=[.int .i64 a1]:=e1
  obtain ⟨a2,e2,o2⟩:=zOV Tryz.underlying3 hf 2 2 ⟨_,rfl,rfl,rfl⟩ z1a
  have e2:[c2]=[.int .i64 a2]:=e2
  have ee:[c0] ++ [c1] ++ [c2]=[.int .i64 a0] ++ [.int .i64 a1] ++ [.int .i64 a2]:=by rw [e0,e1,e2]
  exact ⟨⟨a0,a1,a2⟩,ee,o0,o1,o2⟩
theorem z1m:Tryz.prog.cellsOf 25=1:=by kernel_rfl
theorem opens_SurgeS:Opens (Sl DSurge) jV 25:=zkn Tryz.underlying25 (by kernel_rfl) z1l
theorem z1n:Tryz.prog.cellsOf 27=3:=by kernel_rfl
set_option maxRecDepth 100000 in
theorem opens_Forecast:Opens DForecast jV 27:=by
 intro H enc w base spare held fuel cs x h
 obtain ⟨hl,hf⟩:=zOH Tryz.underlying27 h
 have hl:cs.length=3:=hl.trans (by kernel_rfl)
 match cs,hl with
 | [c0,c1,c2],_ =>
  obtain ⟨a0,e0,o0⟩:=opens_Tide.field hf 0 0 2 ⟨_,rfl,rfl,rfl⟩ z1k
  have e0:[c0,c1]=Enc.enc a0:=e0
  obtain ⟨a1,e1,o1⟩:=opens_SurgeS.field hf 1 2 1 ⟨_,rfl,rfl,rfl⟩ z1m
  have e1:[c2]=Enc.enc a1:=e1
  have ee:[c0,c1] ++ [c2]=Enc.enc a0 ++ Enc.enc a1:=by rw [e0,e1]
  exact ⟨⟨a0,a1⟩,ee,o0,o1⟩
set_option maxRecDepth 100000 in
theorem z1o:Opens DPoint jV 265:=by
 intro H enc w base spare held fuel cs x h
 obtain ⟨hl,hf⟩:=zOH Tryz.underlying265 h
 have hl:cs.length=2:=hl.trans (by kernel_rfl)
 match cs,hl with
 | [c0,c1],_ =>
  obtain ⟨a0,e0,o0⟩:=zOX Tryz.underlying9 hf 0 0 ⟨_,rfl,rfl,rfl⟩ z1c
  have e0:[c0]=[.string a0]:=e0
  obtain ⟨a1,e1⟩:=zOW Tryz.underlying4 hf 1 1 ⟨_,rfl,rfl,rfl⟩ z1b
  have e1:[c1]=[.bool a1]:=e1
  have ee:[c0] ++ [c1]=[.string a0] ++ [.bool a1]:=by rw [e0,e1]
  exact ⟨⟨a0,a1⟩,ee,o0⟩
theorem z1p:Tryz.prog.cellsOf 28=1:=by kernel_rfl
theorem opens_PointS:Opens (Sl DPoint) jV 28:=zkn Tryz.underlying28 (by kernel_rfl) z1o
set_option maxRecDepth 100000 in
theorem z1q:Opens DSegment jV 271:=by
 intro H enc w base spare held fuel cs x h
 obtain ⟨hl,hf⟩:=zOH Tryz.underlying271 h
 have hl:cs.length=5:=hl.trans (by kernel_rfl)
 match cs,hl with
 | [c0,c1,c2,c3,c4],_ =>
  obtain ⟨a0,e0,o0⟩:=zOV Tryz.underlying3 hf 0 0 ⟨_,rfl,rfl,rfl⟩ z1a
  have e0:[c0]=[.int .i64 a0]:=e0
  obtain ⟨a1,e1,o1⟩:=zOV Tryz.underlying3 hf 1 1 ⟨_,rfl,rfl,rfl⟩ z1a
  have e1:[c1]=[.int .i64 a1]:=e1
  obtain ⟨a2,e2,o2⟩:=zOV Tryz.underlying3 hf 2 2 ⟨_,rfl,rfl,rfl⟩ z1a
  have e2:[c2]=[.int .i64 a2]:=e2
  obtain ⟨a3,e3,o3⟩:=zOV Tryz.underlying3 hf 3 3 ⟨_,rfl,rfl,rfl⟩ z1a
  have e3:[c3]=[.int .i64 a3]:=e3
  obtain ⟨a4,e4⟩:=zOW Tryz.underlying4 hf 4 4 ⟨_,rfl,rfl,rfl⟩ z1b
  have e4:[c4]=[.bool a4]:=e4
  have ee:[c0] ++ [c1] ++ [c2] ++ [c3] ++ [c4]=[.int .i64 a0] ++ [.int .i64 a1] ++ [.int .i64 a2] ++ [.int .i64 a3] ++ [.bool a4]:=by rw [e0,e1,e2,e3,e4]
  exact ⟨⟨a0,a1,a2,a3,a4⟩,ee,o0,o1,o2,o3⟩
theorem z1r:Tryz.prog.cellsOf 29=1:=by kernel_rfl
theorem opens_SegmentS:Opens (Sl DSegment) jV 29:=zkn Tryz.underlying29 (by kernel_rfl) z1q
theorem z1s:Tryz.prog.cellsOf 31=2:=by kernel_rfl
set_option maxRecDepth 100000 in
theorem opens_Chart:Opens DChart jV 31:=by
 intro H enc w base spare held fuel cs x h
 obtain ⟨hl,hf⟩:=zOH Tryz.underlying31 h
 have hl:cs.length=2:=hl.trans (by kernel_rfl)
 match cs,hl with
 | [c0,c1],_ =>
  obtain ⟨a0,e0,o0⟩:=opens_PointS.field hf 0 0 1 ⟨_,rfl,rfl,rfl⟩ z1p
  have e0:[c0]=Enc.enc a0:=e0
  obtain ⟨a1,e1,o1⟩:=opens_SegmentS.field hf 1 1 1 ⟨_,rfl,rfl,rfl⟩ z1r
  have e1:[c1]=Enc.enc a1:=e1
  have ee:[c0] ++ [c1]=Enc.enc a0 ++ Enc.enc a1:=by rw [e0,e1]
  exact ⟨⟨a0,a1⟩,ee,o0,o1⟩
set_option maxRecDepth 100000 in
theorem z1t:Opens DShip jV 197:=by
 intro H enc w base spare held fuel cs x h
 obtain ⟨hl,hf⟩:=zOH Tryz.underlying197 h
 have hl:cs.length=6:=hl.trans (by kernel_rfl)
 match cs,hl with
 | [c0,c1,c2,c3,c4,c5],_ =>
  obtain ⟨a0,e0,o0⟩:=zOX Tryz.underlying9 hf 0 0 ⟨_,rfl,rfl,rfl⟩ z1c
  have e0:[c0]=[.string a0]:=e0
  obtain ⟨a1,e1,o1⟩:=zOV Tryz.underlying3 hf 1 1 ⟨_,rfl,rfl,rfl⟩ z1a
  have e1:[c1]=[.int .i64 a1]:=e1
  obtain ⟨a2,e2,o2⟩:=zOV Tryz.underlying3 hf 2 2 ⟨_,rfl,rfl,rfl⟩ z1a
  have e2:[c2]=[.int .i64 a2]:=e2
  obtain ⟨a3,e3,o3⟩:=zOV Tryz.underlying3 hf 3 3 ⟨_,rfl,rfl,rfl⟩ z1a
  have e3:[c3]=[.int .i64 a3]:=e3
  obtain ⟨a4,e4,o4⟩:=zOV Tryz.underlying3 hf 4 4 ⟨_,rfl,rfl,rfl⟩ z1a
  have e4:[c4]=[.int .i64 a4]:=e4
  obtain ⟨a5,e5⟩:=zOW Tryz.underlying4 hf 5 5 ⟨_,rfl,rfl,rfl⟩ z1b
  have e5:[c5]=[.bool a5]:=e5
  have ee:[c0] ++ [c1] ++ [c2] ++ [c3] ++ [c4] ++ [c5]=[.string a0] ++ [.int .i64 a1] ++ [.int .i64 a2] ++ [.int .i64 a3] ++ [.int .i64 a4] ++ [.bool a5]:=by rw [e0,e1,e2,e3,e4,e5]
  exact ⟨⟨a0,a1,a2,a3,a4,a5⟩,ee,o0,o1,o2,o3,o4⟩
theorem z1u:Tryz.prog.cellsOf 32=1:=by kernel_rfl
theorem opens_ShipS:Opens (Sl DShip) jV 32:=zkn Tryz.underlying32 (by kernel_rfl) z1t
theorem z1v:Tryz.prog.cellsOf 34=2:=by kernel_rfl
set_option maxRecDepth 100000 in
theorem opens_Regime:Opens DRegime jV 34:=by
 intro H enc w base spare held fuel cs x h
 obtain ⟨hl,hf⟩:=zOH Tryz.underlying34 h
 have hl:cs.length=2:=hl.trans (by kernel_rfl)
 match cs,hl with
 | [c0,c1],_ =>
  obtain ⟨a0,e0,o0⟩:=zOV Tryz.underlying3 hf 0 0 ⟨_,rfl,rfl,rfl⟩ z1a
  have e0:[c0]=[.int .i64 a0]:=e0
  obtain ⟨a1,e1⟩:=zOW Tryz.underlying4 hf 1 1 ⟨_,rfl,rfl,rfl⟩ z1b
  have e1:[c1]=[.bool a1]:=e1
  have ee:[c0] ++ [c1]=[.int .i64 a0] ++ [.bool a1]:=by rw [e0,e1]
  exact ⟨⟨a0,a1⟩,ee,o0⟩
set_option maxRecDepth 100000 in
theorem z1w:Opens DHarbour jV 39:=by
 intro H enc w base spare held fuel cs x h
 obtain ⟨hl,hf⟩:=zOH Tryz.underlying39 h
 have hl:cs.length=12:=hl.trans (by kernel_rfl)
 match cs,hl with
 | [c0,c1,c2,c3,c4,c5,c6,c7,c8,c9,c10,c11],_ =>
  obtain ⟨a0,e0,o0⟩:=opens_Forecast.field hf 0 0 3 ⟨_,rfl,rfl,rfl⟩ z1n
  have e0:[c0,c1,c2]=Enc.enc a0:=e0
  obtain ⟨a1,e1,o1⟩:=opens_Chart.field hf 1 3 2 ⟨_,rfl,rfl,rfl⟩ z1s
  have e1:[c3,c4]=Enc.enc a1:=e1
  obtain ⟨a2,e2,o2⟩:=opens_ShipS.field hf 2 5 1 ⟨_,rfl,rfl,rfl⟩ z1u
  have e2:[c5]=Enc.enc a2:=e2
  obtain ⟨a3,e3,o3⟩:=opens_Regime.field hf 3 6 2 ⟨_,rfl,rfl,rfl⟩ z1v
  have e3:[c6,c7]=Enc.enc a3:=e3
  obtain ⟨a4,e4,o4⟩:=opens_Crew.field hf 4 8 4 ⟨_,rfl,rfl,rfl⟩ z1h
  have e4:[c8,c9,c10,c11]=Enc.enc a4:=e4
  have ee:[c0,c1,c2] ++ [c3,c4] ++ [c5] ++ [c6,c7] ++ [c8,c9,c10,c11]=Enc.enc a0 ++ Enc.enc a1 ++ Enc.enc a2 ++ Enc.enc a3 ++ Enc.enc a4:=by rw [e0,e1,e2,e3,e4]
  exact ⟨⟨a0,a1,a2,a3,a4⟩,ee,o0,o1,o2,o3,o4⟩
end Go.Proofs.YtbkaaakphpbmiaaGreat
