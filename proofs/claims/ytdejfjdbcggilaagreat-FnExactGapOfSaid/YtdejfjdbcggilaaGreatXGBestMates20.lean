/- What functions of the given program compute, as contracts. -/
import Derived.Test.YtdejfjdbcggilaaGreatXGBestMates19
set_option linter.unusedVariables false
set_option linter.unusedSimpArgs false
set_option maxRecDepth 4000
open Nat renaming reduceAdd → jq, reduceMul → jj, reduceBEq → jy, reduceLeDiff → jv, reduceLT → jk, reduceEqDiff → jx
open Bool renaming or_eq_false_iff → jp, or_eq_true → jQ, and_eq_true → jJ
open Int renaming toNat_natCast → jW, natCast_nonneg → jY
open Go.Proofs.Tryz renaming prog → jV
namespace Go.Proofs.YtdejfjdbcggilaaGreat
open Go Go.SL
set_option maxHeartbeats 1000000
def zK4 (LP:List (List POption)) (n i:Nat):List Int:=(List.range (n+1)).map fun j=>if i≤j then zJ5 (LP.drop j) else 0
theorem zK5 {LP:List (List POption)} {n i:Nat}:(zK4 LP n i).length=n+1:=by rw [zK4,List.length_map,List.length_range]
theorem zK6 {LP:List (List POption)} {n i j:Nat} (hj:j < (zK4 LP n i).length):(zK4 LP n i)[j]=if i≤j then zJ5 (LP.drop j) else 0:=by simp [zK4]
theorem zK7 {LP:List (List POption)} {n:Nat} (hn:LP.length=n):zK4 LP n n=List.replicate (n+1) 0:=by
 refine List.ext_getElem (by rw [zK5,List.length_replicate]) fun j h1 h2=>?_
 rw [zK6,List.getElem_replicate]
 split
 ·rw [List.drop_of_length_le (by omega),zJ5]
 ·rfl
theorem zK8 {LP:List (List POption)} {n i:Nat} (hi:i < n):(zK4 LP n (i+1)).set i (zJ5 (LP.drop i))=zK4 LP n i:=by
 refine List.ext_getElem (by rw [List.length_set,zK5,zK5]) fun j h1 h2=>?_
 rw [List.getElem_set,zK6,zK6]
 by_cases e:i=j
 ·subst e;rw [if_pos rfl,if_pos (Nat.le_refl _)]
 ·rw [if_neg e]
  by_cases h:i≤j
  ·rw [if_pos h,if_pos (by omega)]
  ·rw [if_neg h,if_neg (by omega)]
theorem zK9 {LP:List (List POption)} (h:∀ l ∈ LP,l ≠ []∧∀ y ∈ l,0≤y.cost∧y.cost≤2880):0≤zJ5 LP∧zJ5 LP≤2880 * LP.length:=by
 induction LP with
 | nil=>simp [zJ5]
 | cons l LP ih =>
  obtain ⟨d0,d1⟩:=ih fun y hy=>h y (List.mem_cons_of_mem _ hy)
  obtain ⟨h1,h2⟩:=h l (List.mem_cons_self ..)
  have hf:0≤flr l∧flr l≤2880:=by
   rcases zF3 l with ⟨e,_⟩|⟨c0,c1⟩
   ·exact (h1 e).elim
   ·rw [flr,if_neg (by omega)]
    exact h2 _ (zJX (by omega))
  rw [zJ5,List.length_cons]
  push_cast
  omega
theorem zLa {LP:List (List POption)} (h:∀ l ∈ LP,∀ y ∈ l,0≤y.cost∧y.cost≤2880):-(LP.length:Int)≤zJ5 LP∧zJ5 LP≤2880 * LP.length:=by
 induction LP with
 | nil=>simp [zJ5]
 | cons l LP ih =>
  obtain ⟨d0,d1⟩:=ih fun y hy=>h y (List.mem_cons_of_mem _ hy)
  have h2:=h l (List.mem_cons_self ..)
  have hf:-1≤flr l∧flr l≤2880:=by
   rw [flr]
   rcases zF3 l with ⟨e,c0⟩|⟨c0,c1⟩
   ·rw [if_pos (by omega)];omega
   ·rw [if_neg (by omega)]
    have:=h2 _ (zJX (k:=(zzv l).toNat) (by omega))
    omega
  rw [zJ5,List.length_cons]
  push_cast
  omega
theorem zLb {e:TypeId} {h:Hp} {s:Sl Int} {i:Nat} {u:Int} (H:RowAt e h s) (hi:i < s.l.length) :
  ∃ g cur,s.a=some ⟨g,0,none⟩∧h g=some (.cells cur e (0,0))∧i+1≤cur.size∧RowAt e (h.ins g (.cells (spl i [.int .i64 u] cur.toList).toArray e (0,0))) ⟨s.a,s.cap,s.l.set i u⟩:=by
 obtain ⟨h1,h2,⟨ha,hl,hc⟩|⟨g,cur,ha,hb,hsz,htk⟩⟩:=H
 ·rw [hl] at hi;cases hi
 ·have hs1:Enc.size Int=1:=rfl
  rw [hs1,Nat.mul_one] at hsz htk
  refine ⟨g,cur,ha,hb,by omega,by rw [List.length_set];exact h1,h2,.inr ⟨g,_,ha,Hp.ins_same,?_,?_⟩⟩
  ·have hl:cur.toList.length=cur.size:=Array.length_toList
   simp only [spl,zbG,List.size_toArray,List.length_append,List.length_take,List.length_drop,List.length_cons,List.length_nil,hs1]
   omega
  ·rw [List.length_set,hs1,Nat.mul_one,zCX,List.map_set]
   rw [zCX] at htk
   have hsl:spl i [Value.int .i64 u] cur.toList=cur.toList.set i (.int .i64 u):=by
    unfold spl zbG
    exact zCV (by rw [Array.length_toList];omega)
   rw [hsl,List.take_set,htk]
theorem zLc {h:Hp} {s:Sl Int} {g:Nat} {o:Obj} (ha:s.a=some ⟨g,0,none⟩):zCO (h.ins g o) s=zCO h s:=by
 funext k
 simp only [zCO,ha,Hp.del,Hp.ins]
 split <;> rfl
theorem zLd {x:PHarbour}:∀ {L:List (List POption)} {p:List POption} {ch:List Nat} {st:BSt} {r1:List Nat} {r2:Int},(∀ l ∈ L,l.length < 100)→(∀ y ∈ ch,y < 100)→(∀ r1 r2,st=some (r1,r2)→∀ y ∈ r1,y < 100)→srS x L p ch st=some (r1,r2)→∀ y ∈ r1,y < 100
 | [],p,ch,st,r1,r2,hL,hch,hst,h=>by
  rw [srS] at h
  split at h
  ·exact hst _ _ h
  ·split at h
   ·cases h;exact hch
   ·exact hst _ _ h
 | l :: L,p,ch,st,r1,r2,hL,hch,hst,h=>by
  rw [srS] at h
  split at h
  ·exact hst _ _ h
  ·have hl:=hL l (List.mem_cons_self ..)
   have key:∀ (ks:List Nat) (st:BSt),(∀ k ∈ ks,k < 100)→(∀ r1 r2,st=some (r1,r2)→∀ y ∈ r1,y < 100)→∀ r1 r2,ks.foldl (fun st k=>if zJS x p (l.getD k zFE)=true then srS x L (p ++ [l.getD k zFE]) (ch ++ [k]) st else st) st=some (r1,r2)→∀ y ∈ r1,y < 100:=by
    intro ks
    induction ks with
    | nil=>intro st _ hs r1 r2 h;exact hs r1 r2 h
    | cons k ks ih =>
     intro st hks hs r1 r2 h
     rw [List.foldl_cons] at h
     refine ih _ (fun j hj=>hks j (List.mem_cons_of_mem _ hj)) (fun q1 q2 hq=>?_) r1 r2 h
     split at hq
     ·refine zLd (fun l hl=>hL l (List.mem_cons_of_mem _ hl)) (fun y hy=>?_) hs hq
      rcases List.mem_append.1 hy with hy|hy
      ·exact hch y hy
      ·rw [List.mem_singleton.1 hy];exact hks k (List.mem_cons_self ..)
     ·exact hs q1 q2 hq
   exact key _ st (fun k hk=>by have:=List.mem_range.1 hk;omega) hst r1 r2 h
theorem zLe {x:PHarbour} {LP:List (List POption)} (h:[] ∈ LP):zKc x LP=none:=by rw [zKc,if_pos h]
theorem zLf {x:PHarbour} {LP:List (List POption)} (h:[] ∉ LP):zKc x LP=srS x LP [] [] none:=by rw [zKc,if_neg h]
set_option maxRecDepth 30000 in
theorem zLg (x:DHarbour) (L:Sl (Sl DOption)) (h:Hp) (hx:Enc.ok h x) (hL:L.Ok h) (hL6:L.l.length≤6) (hLn:∀ l ∈ L.l,l.l.length≤90) (hLg:∀ l ∈ L.l,∀ y ∈ l.l,0≤y.cost∧y.cost≤2880∧Sz.sz (Con.con y)≤8) (hok:L.l ≠ []→zz9 (Con.con x.chart)=true∧zAm x.regime=true) :
  Ct jV 116 [x.v,L.val] h fun v h'=>∃ s:Sl Int,v=.tuple #[s.val,.int .i64 (zKe (zKc (Con.con x) (LL L))).2.1,.bool (zKe (zKc (Con.con x) (LL L))).2.2]∧s.l=(zKe (zKc (Con.con x) (LL L))).1∧s.Ok h'∧Mine h h' s:=by
 have hLm:=hL.max
 have hLL:(LL L).length=L.l.length:=by rw [LL,List.length_map]
 have hLc:∀ l ∈ LL L,∀ y ∈ l,0≤y.cost∧y.cost≤2880:=fun l hl y hy=>by
  obtain ⟨l',hl',rfl⟩:=List.mem_map.1 hl
  obtain ⟨y',hy',rfl⟩:=List.mem_map.1 hy
  have:=hLg l' hl' y' hy'
  exact ⟨this.1,this.2.1⟩
 have hrc:∀ i,-6≤zJ5 ((LL L).drop i)∧zJ5 ((LL L).drop i)≤17280:=fun i=>by
  have:=zLa (LP:=(LL L).drop i) fun l hl=>hLc l (List.mem_of_mem_drop hl)
  rw [List.length_drop] at this
  omega
 have hwl:IntKind.i64.wrap ((L.l.length:Int)+1)=((L.l.length+1:Nat):Int):=by rw [zjz (by omega)];rfl
 refine zdn (fun A W=>by simp) Tryz.func116 rfl rfl (by simp) fun W0=>?_
 refine Wk ?_
 refine zEC (ι:=Hp × Hp × Sl (Sl (Sl (Sl Bool))) × Sl Int) (fun t=>match t with|(h2,h1,cx,rs)=>⟨[(1,true,.c (.v L.val)),(4,true,.c (.v (.slice none 0 0))),(5,true,.c (.v (.int .i64 0))),(6,true,.c (.v (.bool false))),(7,true,.c (.p 0 0))],[(0,.box 221 [.v (.int .i64 x.forecast.tide.mean),.v x.forecast.tide.parts.val,.v x.forecast.surges.val,.v x.chart.points.val,.v x.chart.segments.val,.v x.fleet.val,.v (.int .i64 x.regime.gap),.v (.bool x.regime.noMeet),.v (.int .i64 x.crew.tugs),.v (.int .i64 x.crew.pilots),.v (.int .i64 x.crew.rest),.v x.crew.moves.val,.v L.val,.v cx.val,.v rs.val,.v (.slice none 0 0),.v (.int .i64 0),.v (.bool false)])],h2,1⟩) (fun t=>h.le t.2.1∧con4 t.2.2.1=zKE (cl x) L.l∧t.2.2.1.Ok t.2.1∧zCO t.1 t.2.2.2=t.2.1∧RowAt 3 t.1 t.2.2.2∧t.2.2.2.l=List.replicate (L.l.length+1) (0:Int)) ?_ ?_
 ·refine zyW rfl ?_
  refine U_t [0,1,2,3,5,6,7] rfl ?_
  simp only [go_sem,jq,jj,jy,jv,jk,jx,hwl]
  refine U_m 4 [8] ⟨?_,?_,trivial⟩
  ·refine U_b 4 0 [7,6,0] rfl rfl ?_
   simp only [go_sem,jq,jj,jy,jv,jk,jx,hwl]
   refine zkr (zKH x L _ hx hL hL6 hLn hok) rfl ?_
   rintro v h1 le1 ⟨cx,rfl,hcx,okc⟩
   try simp only [go_sem,jq,jj,jy,jv,jk,jx,hwl]
   refine U_1 8 0 [0] rfl rfl ?_
   simp only [go_sem,jq,jj,jy,jv,jk,jx,hwl]
   refine ⟨by simp only [maxLen];omega,by omega,?_⟩
   try simp only [go_sem,jq,jj,jy,jv,jk,jx,hwl]
   refine zEy 1 (List.replicate (L.l.length+1) (0:Int)) rfl rfl ?_ ?_ fun rs h2 e1 R f1 l1 k1=>?_
   ·rw [List.length_replicate]
   ·rw [zCX,List.map_replicate]
    try rw [zj5]
   refine Evs ?_
   refine U_1 9 0 [] rfl rfl ?_
   simp only [go_sem,jq,jj,jy,jv,jk,jx,hwl]
   refine U_1 10 0 [] rfl rfl ?_
   simp only [go_sem,jq,jj,jy,jv,jk,jx,hwl]
   refine U_t [11] rfl ?_
   simp only [go_sem,jq,jj,jy,jv,jk,jx,hwl]
   refine U_d ?_
   refine ⟨(h2,h1,cx,rs),[2],⟨le1,hcx,okc,?_,R,e1⟩,?_⟩
   ·funext k
    rcases Classical.em (∃ a,rs.a=some a∧k=a.block) with ⟨a,ha,hk⟩|hn
    ·rw [hk,zDn ha]
     have hb:=R.blk a ha
     exact (f1 a.block (by rw [← hb];exact ha)).symm
    ·rw [zDm (fun a ha hk=>hn ⟨a,ha,hk⟩)]
     exact k1 k fun g hg hk=>hn ⟨_,hg,hk⟩
   refine Evs ?_
   exact Gk
  ·refine U_b 8 0 [2,0] rfl rfl ?_
   simp only [go_sem,jq,jj,jy,jv,jk,jx,hwl]
   refine ⟨by simp only [maxLen];omega,by omega,?_⟩
   try simp only [go_sem,jq,jj,jy,jv,jk,jx,hwl]
   refine U_1 4 0 [0] rfl rfl ?_
   simp only [go_sem,jq,jj,jy,jv,jk,jx,hwl]
   refine zkr (zKH x L _ hx hL hL6 hLn hok) rfl ?_
   rintro v h1 le1 ⟨cx,rfl,hcx,okc⟩
   try simp only [go_sem,jq,jj,jy,jv,jk,jx,hwl]
   refine zEy 1 (List.replicate (L.l.length+1) (0:Int)) rfl rfl ?_ ?_ fun rs h2 e1 R f1 l1 k1=>?_
   ·rw [List.length_replicate]
   ·rw [zCX,List.map_replicate]
    try rw [zj5]
   refine Evs ?_
   refine U_1 9 0 [] rfl rfl ?_
   simp only [go_sem,jq,jj,jy,jv,jk,jx,hwl]
   refine U_1 10 0 [] rfl rfl ?_
   simp only [go_sem,jq,jj,jy,jv,jk,jx,hwl]
   refine U_t [11] rfl ?_
   simp only [go_sem,jq,jj,jy,jv,jk,jx,hwl]
   refine U_d ?_
   refine ⟨(h2,h1,cx,rs),[2],⟨le1,hcx,okc,?_,R,e1⟩,?_⟩
   ·funext k
    rcases Classical.em (∃ a,rs.a=some a∧k=a.block) with ⟨a,ha,hk⟩|hn
    ·rw [hk,zDn ha]
     have hb:=R.blk a ha
     exact (f1 a.block (by rw [← hb];exact ha)).symm
    ·rw [zDm (fun a ha hk=>hn ⟨a,ha,hk⟩)]
     exact k1 k fun g hg hk=>hn ⟨_,hg,hk⟩
   refine Evs ?_
   exact Gk
 rintro ⟨h2,h1,cx,rs0⟩ ⟨le1,hcx,okc,hdr,R0,er0⟩
 simp only at le1 hcx okc hdr R0 er0
 have le2:h1.le h2:=by rw [← hdr];exact zDk
 refine Wk ?_
 refine zEE (ι:=Nat × Hp × Sl Int) (fun t=>⟨[(1,true,.c (.v L.val)),(4,true,.c (.v (.slice none 0 0))),(5,true,.c (.v (.int .i64 0))),(6,true,.c (.v (.bool false))),(7,true,.c (.p 0 0)),(8,true,.c (.v (.int .i64 ((t.1:Int) - 1))))],[(0,.box 221 [.v (.int .i64 x.forecast.tide.mean),.v x.forecast.tide.parts.val,.v x.forecast.surges.val,.v x.chart.points.val,.v x.chart.segments.val,.v x.fleet.val,.v (.int .i64 x.regime.gap),.v (.bool x.regime.noMeet),.v (.int .i64 x.crew.tugs),.v (.int .i64 x.crew.pilots),.v (.int .i64 x.crew.rest),.v x.crew.moves.val,.v L.val,.v cx.val,.v t.2.2.val,.v (.slice none 0 0),.v (.int .i64 0),.v (.bool false)])],t.2.1,1⟩) (fun t=>t.1≤L.l.length∧(∀ j (hj:j < L.l.length),t.1≤j→L.l[j].l ≠ [])∧RowAt 3 t.2.1 t.2.2∧t.2.2.l=zK4 (LL L) L.l.length t.1∧zCO t.2.1 t.2.2=h1) (fun t=>t.1) (L.l.length,h2,rs0) ⟨Nat.le_refl _,fun j hj hij=>by omega,R0,by rw [er0,zK7 hLL],hdr⟩ [0] ?_ ?_
 ·refine Evs ?_
  repeat' first|exact zjB (zjz (by omega))|exact rfl|exact trivial|assumption|decide|refine And.intro ?_ ?_
 rintro ⟨i,hk,rs⟩ ⟨hi,hne,R,er,hdk⟩
 simp only at hi hne R er hdk
 have lek:h1.le hk:=by rw [← hdk];exact zDk
 have hLo:=hL.mono (Hp.le_trans le1 lek)
 have hrl:rs.l.length=L.l.length+1:=by rw [er,zK5]
 have hI:∀ y ∈ rs.l,I64 y:=fun y hy=>by
  rw [er,zK4] at hy
  obtain ⟨j,_,rfl⟩:=List.mem_map.1 hy
  have:=hrc j
  show I64 _
  unfold I64
  split <;> omega
 have rok:rs.Ok hk:=R.ok (by decide) hI
 refine Wk ?_
 refine zc9 rfl (fun hd=>?_) (fun hd=>?_)
 ·obtain ⟨k,rfl⟩:∃ k,i=k+1:=⟨i - 1,by have:=of_decide_eq_true hd;omega⟩
  have hk1:(((k+1:Nat):Int) - 1)=(k:Int):=by omega
  rw [hk1]
  have hlt:k < L.l.length:=by omega
  have hlti:(k:Int) < L.l.length:=by omega
  have hlo:=hLo.el hlt
  repeat' first|refine Wa ?_|(simp only [go_sem,jq,jj,jy,jv,jk,jx,zkQ hLo hlt,hLo.some hlt,hlt,hlti,jW,jY,implies_true,true_and,and_true,and_self];try rfl)|refine Wb ?_|fail
  refine zhF (fun _=>zzy L.l[k] _ hlo) ?_
  refine Wk ?_
  have hgk:(LL L)[k]'(by omega)=L.l[k].l.map (Con.con (α:=DOption)):=by simp [LL]
  refine zc9 rfl (fun hq=>?_) (fun hq=>?_)
  ·have hq:=of_decide_eq_true hq
   have hnil:[] ∈ LL L:=by
    rcases zF3 (L.l[k].l.map (Con.con (α:=DOption))) with ⟨e,_⟩|⟨c0,c1⟩
    ·rw [← e,← hgk];exact List.getElem_mem _
    ·have hq:zzv (L.l[k].l.map Con.con) < 0:=hq
     omega
   rw [zLe hnil]
   refine Wk ?_
   exact ⟨⟨none,0,[]⟩,rfl,rfl,znp,Mine.nil⟩
  have hq:¬ zzv (L.l[k].l.map Con.con) < 0:=of_decide_eq_false hq
  obtain ⟨cn,hcn⟩:∃ cn:Nat,zzv (L.l[k].l.map (Con.con (α:=DOption)))=cn:=⟨(zzv (L.l[k].l.map Con.con)).toNat,by omega⟩
  have hck:cn < L.l[k].l.length:=by
   rcases zF3 (L.l[k].l.map (Con.con (α:=DOption))) with ⟨e,c0⟩|⟨c0,c1⟩
   ·omega
   ·rw [List.length_map] at c1;omega
  have hcki:(cn:Int) < L.l[k].l.length:=by omega
  have hcon:Con.con L.l[k]=L.l[k].l.map (Con.con (α:=DOption)):=rfl
  rw [hcon,hcn]
  have hwi:IntKind.i64.wrap ((k:Int)+1)=((k+1:Nat):Int):=by rw [zjz (by omega)];rfl
  have hri:k+1 < rs.l.length:=by omega
  have hrii:((k+1:Nat):Int) < rs.l.length:=by omega
  have hr0:k < rs.l.length:=by omega
  have hr0i:(k:Int) < rs.l.length:=by omega
  have hgr:rs.l[k+1]=zJ5 ((LL L).drop (k+1)):=by
   have:rs.l[k+1]=(zK4 (LL L) L.l.length (k+1))[k+1]'(by rw [zK5];omega):=by simp only [er]
   rw [this,zK6,if_pos (Nat.le_refl _)]
  have hfl:flr (L.l[k].l.map (Con.con (α:=DOption)))=L.l[k].l[cn].cost:=by
   rw [flr,hcn,if_neg (by omega),jW]
   simp [List.getD_eq_getElem?_getD,hck]
   rfl
  have hdc:zJ5 ((LL L).drop k)=zJ5 ((LL L).drop (k+1))+L.l[k].l[cn].cost:=by
   rw [zKJ hlt,zJ5,hfl]
  have hws:IntKind.i64.wrap (zJ5 ((LL L).drop (k+1))+L.l[k].l[cn].cost)=zJ5 ((LL L).drop k):=by
   have:=hrc k
   rw [← hdc,zjz (by omega)]
  obtain ⟨g,cur,ga,gb,gsz,R'⟩:=zLb (u:=zJ5 ((LL L).drop k)) R hr0
  have hat1:=zkQ hLo hlt
  have hat2:=zkR rok hri
  simp only [Nat.mul_one] at hat1 hat2
  simp only [ga,Option.map_some,za4,Nat.zero_add] at hat2
  have hfs:=zmQ hlo hck
  have hgn:h g=none:=znC le1 (by rw [← hdk];exact zDn (a:=⟨g,0,none⟩) ga)
  refine Wk ?_
  refine zyW rfl ?_
  refine U_t [0,4,5,9,13,14,17,1,6,10,15,2,7,16,3,8,18,11,19,12,20,21,22] rfl ?_
  simp only [go_sem,jq,jj,jy,jv,jk,jx,ga,hat2,hfs,hat1,hgr,hri,hrii,hr0,hr0i,hwi,hlt,hlti,hLo.some hlt,hck,hcki,Sl.Ok.some hlo hck,hws,Option.map_some,za4,Option.isSome_some,jW,jY,Nat.mul_one,Nat.zero_add,Nat.add_zero,List.toList_toArray,implies_true,true_and,and_true,and_self,true_or]
  refine U_1 23 1 [] rfl rfl ?_
  simp only [go_sem,jq,jj,jy,jv,jk,jx,ga,hat2,hfs,hat1,hgr,hri,hrii,hr0,hr0i,hwi,hlt,hlti,hLo.some hlt,hck,hcki,Sl.Ok.some hlo hck,hws,Option.map_some,za4,Option.isSome_some,jW,jY,Nat.mul_one,Nat.zero_add,Nat.add_zero,List.toList_toArray,implies_true,true_and,and_true,and_self,true_or]
  refine zl3 (by simp only [go_sem]) (by simp only [go_sem]) rfl rfl gb (.inl hgn) gsz ?_
  try simp only [go_sem,jq,jj,jy,jv,jk,jx]
  refine U_d ?_
  refine Wk ?_
  refine ⟨(k,hk.ins g (.cells (spl k [.int .i64 (zJ5 ((LL L).drop k))] cur.toList).toArray 3 (0,0)),Sl.mk rs.a rs.cap (rs.l.set k (zJ5 ((LL L).drop k)))),[0],⟨by omega,fun j hj hkj=>?_,R',by simp only;rw [er,zK8 hlt],?_⟩,by simp only;omega,?_⟩
  ·rcases Nat.lt_or_ge k j with h9|h9
   ·exact hne j hj (by omega)
   ·obtain rfl:j=k:=by omega
    intro e
    rw [e] at hck
    cases hck
  ·simp only
   rw [show zCO _ (Sl.mk rs.a rs.cap (rs.l.set k (zJ5 ((LL L).drop k))))=zCO _ rs from rfl,zLc ga,hdk]
  refine Evs ?_
  simp only [Sl.val,List.length_set]
  repeat' first|exact zjB (zjz (by omega))|exact rfl|exact trivial|assumption|decide|refine And.intro ?_ ?_
 ·have hi0:i=0:=by have:=of_decide_eq_false hd;omega
  subst hi0
  have hnn:[] ∉ LL L:=fun hm=>by
   obtain ⟨l,hl,e⟩:=List.mem_map.1 hm
   obtain ⟨j,hj,rfl⟩:=List.getElem_of_mem hl
   exact hne j hj (Nat.zero_le _) (List.map_eq_nil_iff.1 e)
  rw [zLf hnn]
  refine zc6 ?_
  refine Evs ?_
  refine zx5 0 rfl rfl fun g hg hown=>?_
  refine Evs ?_
  have lehk:=Hp.le_trans le1 lek
  have K0:SK hk (hk.ins g (.cells (skC x L cx rs (Sl.mk none 0 []) 0 false).toArray 221 (0,0))) g x L cx rs (Sl.mk none 0 []) 0 false :=
   ⟨Hp.ins_le hg,Enc.mono lehk hx,hL.mono lehk,okc.mono lek,rok,hg,Hp.ins_same,⟨⟨Nat.le_refl _,Nat.zero_le _,.inl ⟨rfl,rfl,rfl⟩⟩,fun g hg=>(by cases hg)⟩⟩
  first|refine zyi [0,2,1] rfl ?_|refine zyh [0,2,1] rfl ?_|(refine zc3 ?_;first|refine zyi [0,2,1] rfl ?_|refine zyh [0,2,1] rfl ?_)
  refine Evs ?_
  intro ad cap h3 P
  have P':Pub _ 3 (Enc.size Int) ([]:List Int).length (([]:List Int).flatMap Enc.enc) ad cap h3:=P
  have K1:=K0.grow P'.le
  have cok:(Sl.mk ad cap ([]:List Int)).Ok (h3.del g):=by
   obtain ⟨R9,f9,_⟩:=P'.row
   refine RowAt.ok (s:=Sl.mk ad cap ([]:List Int)) (e:=3) (by decide) (R9.keep fun b hb=>?_) fun y hy=>(by cases hy)
   simp only [Hp.del]
   rw [if_neg fun e=>by
    have:=f9 b hb
    rw [e,Hp.ins_same] at this
    cases this]
  have hrs:∀ i (hi:i < rs.l.length),rs.l[i]=zJ5 ((LL L).drop i):=fun i hi=>by
   have:rs.l[i]=(zK4 (LL L) L.l.length 0)[i]'(by rw [zK5];omega):=by simp only [er]
   rw [this,zK6,if_pos (Nat.zero_le _)]
  have hrb:∀ i,0≤zJ5 ((LL L).drop i)∧zJ5 ((LL L).drop i)≤100000:=fun i=>by
   have:=zK9 (LP:=(LL L).drop i) fun l hl=>⟨fun e=>hnn (by rw [← e];exact List.mem_of_mem_drop hl),hLc l (List.mem_of_mem_drop hl)⟩
   have:=hrc i
   omega
  refine zlJ (zKS hk g x L cx rs hL6 hLn hLg hcx hrl hrs hrb L.l.length [] [] (Sl.mk ad cap ([]:List Int)) (Sl.mk none 0 []) 0 false none h3 K1 rfl cok rfl (Nat.zero_add _) ⟨rfl,fun i hi=>(by cases hi)⟩) rfl (fun k hk=>by rw [hk];exact ⟨K1.nbx,.inr hown⟩) ?_
  rintro v h6 kp ⟨be6,m6,fo6,H6,hB6⟩
  obtain ⟨q3,q5,q8,q12,q13,q14,q15,q16,q17⟩:=zKN H6.bx
  have hB6:BSS (srS (Con.con x) (LL L) [] [] none) be6 m6 fo6:=hB6
  repeat' first|refine Wa ?_|(simp only [go_sem,jq,jj,jy,jv,jk,jx,q17,true_or,true_and,and_true,implies_true];try rfl)|refine Wb ?_|fail
  refine zc9 rfl (fun hz=>?_) (fun hz=>?_)
  ·have hno:srS (Con.con x) (LL L) [] [] none=none:=by
    cases hr:srS (Con.con x) (LL L) [] [] none with
    | none=>rfl
    | some r =>
     rw [hr] at hB6
     rw [hB6.1] at hz
     cases hz
   rw [hno]
   refine Wk ?_
   exact ⟨⟨none,0,[]⟩,rfl,rfl,znp,Mine.nil⟩
  ·cases hr:srS (Con.con x) (LL L) [] [] none with
   | none =>
    rw [hr] at hB6
    rw [show fo6=false from hB6] at hz
    cases hz
   | some r =>
    obtain ⟨r1,r2⟩:=r
    rw [hr] at hB6
    obtain ⟨b1,b2,b3⟩:=hB6
    refine Wk ?_
    refine zyW rfl ?_
    refine U_t [0,4,1,5,2,6,3,7,8,9,10] rfl ?_
    simp only [go_sem,jq,jj,jy,jv,jk,jx,q3,q5,q8,q12,q13,q14,q15,q16,q17,true_or,true_and,and_true,implies_true]
    refine U_d ?_
    refine Wk ?_
    have hlt:=zLd (fun l hl=>by
     obtain ⟨z,hz,rfl⟩:=List.mem_map.1 hl
     rw [List.length_map];exact Nat.lt_of_le_of_lt (hLn z hz) (by decide)) (fun y hy=>(by cases hy)) (fun _ _ h=>by cases h) hr
    refine ⟨be6,by rw [b3];rfl,b2,H6.rb.1.ok (by decide) fun y hy=>?_,zID H6.rb.1 fun g hg=>znC lehk (H6.rb.2 g hg).1⟩
    rw [b2] at hy
    obtain ⟨z,hz,rfl⟩:=List.mem_map.1 hy
    have:=hlt z hz
    show I64 _;unfold I64;omega
set_option maxRecDepth 30000 in
theorem zNw (x:DHarbour) (a:Sl DCall) (h:Hp) (hx:Enc.ok h x) (ha:a.Ok h):Ct jV 61 [x.v,a.val] h fun v h'=>∃ s:Sl Int,v=.tuple #[s.val,.int .i64 (zKf (Con.con x) (Con.con a)).2.1,.bool (zKf (Con.con x) (Con.con a)).2.2]∧Con.con s=(zKf (Con.con x) (Con.con a)).1∧s.Ok h'∧Mine h h' s:=by
 rw [zAQ]
 refine zdn (fun A W=>by simp) Tryz.func61 rfl rfl (by simp) fun W0=>?_
 repeat' first|refine Wa ?_|refine zhF (fun _=>zAR x a _ hx ha) ?_|(simp only [go_sem,jq,jj,jy,jv,jk,jx];try rfl)|refine Wb ?_|fail
 rw [zAQ]
 refine zc9 rfl (fun hc=>?_) (fun hc=>?_)
 ·rw [Bool.not_eq_true'] at hc
  have hF:zKf (Con.con x) a.l=([],0,false):=by rw [zKf,if_neg (by rw [hc];exact Bool.false_ne_true)]
  rw [hF]
  refine Wk ?_
  exact ⟨⟨none,0,[]⟩,rfl,rfl,znp,Mine.nil⟩
 rw [Bool.not_eq_false'] at hc
 have h6:=zJy hc
 have hz:a.l.length≤1048576:=by omega
 obtain ⟨hR,hC⟩:=zKq hc
 have hR:zAm x.regime=true:=hR
 have hC:zz9 (Con.con x.chart)=true:=hC
 have hw:=zJU hc
 have hfl:(Con.con x).fleet=x.fleet.l:=zz2 _
 have hB:zKc (Con.con x) (zJu (Con.con x) a.l)=srI (Con.con x) (zJu (Con.con x) a.l) [] [] none:=zKd hw (fun l hl o ho=>by
  rw [zJu] at hl
  obtain ⟨d,_,rfl⟩:=List.mem_map.1 hl
  rw [hfl];exact zJj o ho) (fun l hl o ho=>by
  rw [zJu] at hl
  obtain ⟨d,_,rfl⟩:=List.mem_map.1 hl
  exact (zGr o ho).1) (by rw [zJx];omega)
 rw [zKf,if_pos hc,← hB]
 refine Wk ?_
 refine zyW rfl ?_
 refine U_t [0,1,2] rfl ?_
 refine Evs ?_
 refine U_1 3 0 [0] rfl rfl ?_
 refine Evs ?_
 refine zkr (zJv x a _ hx ha hz) rfl ?_
 rintro v h1 le1 ⟨L,rfl,eL,okL,mL⟩
 try simp only [go_sem,jq,jj,jy,jv,jk,jx]
 refine U_1 4 0 [] rfl rfl ?_
 refine Evs ?_
 obtain ⟨g1,g2,g3⟩:=zK2 eL
 have hlL:L.l.length=a.l.length:=by have:=congrArg List.length eL;rwa [List.length_map,zJx] at this
 refine zkr (zLg x L _ (Enc.mono le1 hx) okL (by omega) g1 g3 (fun _=>⟨hC,hR⟩)) rfl ?_
 rintro v h2 le2 ⟨s,rfl,es,oks,ms⟩
 try simp only [go_sem,jq,jj,jy,jv,jk,jx]
 refine U_t [5,6,7,8,9,10] rfl ?_
 refine Evs ?_
 refine U_d ?_
 refine Wk ?_
 have hL:LL L=zJu (Con.con x) a.l:=eL
 rw [hL] at es ⊢
 exact ⟨s,rfl,con_ints.trans es,oks,ms.back le1⟩
def ngF (y:Int):Bool:=decide (y < 0)
theorem zNx {m:List Int} (h:∀ j (hj:j < m.length),¬ m[j] < 0):m.findIdx ngF=m.length:=by
 rw [List.findIdx_eq_length]
 intro y hy
 obtain ⟨j,hj,rfl⟩:=List.getElem_of_mem hy
 exact decide_eq_false (h j hj)
theorem zNy {m:List Int} {i:Nat} (hi:i < m.length) (h0:m[i] < 0) (h:∀ j (hj:j < m.length),j < i→¬ m[j] < 0):m.findIdx ngF=i:=by
 rw [List.findIdx_eq hi]
 exact ⟨decide_eq_true h0,fun j hj=>decide_eq_false (h j (by omega) hj)⟩
def mat (m:List Int) (i k:Nat):List Int:=(m.set i (k:Int)).set k (i:Int)
def allB (F:List Int→List (List Int)) (m:List Int) (i k:Nat):List (List Int):=(List.range' i (k - i)).flatMap fun k=>if m.getD k 0 < 0 then F (mat m i k) else []
def alls:Nat→List Int→List (List Int)
 | 0,m=>[m]
 | f+1,m=>if m.findIdx ngF=m.length then [m] else allB (alls f) m (m.findIdx ngF) m.length
theorem zNz {f:Nat} {m:List Int} (h:m.findIdx ngF=m.length):alls f m=[m]:=by
 cases f with
 | zero=>rfl
 | succ f=>rw [alls,if_pos h]
theorem zNA {f i:Nat} {m:List Int} (h:m.findIdx ngF=i) (hi:i < m.length):alls (f+1) m=allB (alls f) m i m.length:=by
 rw [alls,if_neg (by omega),h]
theorem zNB {F:List Int→List (List Int)} {m:List Int} {i:Nat}:allB F m i i=[]:=by rw [allB,Nat.sub_self];rfl
theorem zNC {F:List Int→List (List Int)} {m:List Int} {i k:Nat} (hk:i≤k):allB F m i (k+1)=allB F m i k ++ (if m.getD k 0 < 0 then F (mat m i k) else []):=by
 rw [allB,allB,show k+1 - i=(k - i)+1 by omega,List.range'_1_concat,List.flatMap_append,List.flatMap_singleton,show i+(k - i)=k by omega]
theorem zND {m:List Int} {i k:Nat}:(mat m i k).length=m.length:=by rw [mat,List.length_set,List.length_set]
theorem zNE {m:List Int} {i k:Nat} (hi:i < m.length) (h:m[i] < 0) (hk:k < m.length):(mat m i k).countP ngF < m.countP ngF:=by
 have h1:(m.set i (k:Int)).countP ngF < m.countP ngF:=by
  rw [List.countP_set hi,if_pos (c:=ngF m[i]=true) (decide_eq_true h),if_neg (c:=ngF (k:Int)=true) (by rw [ngF,decide_eq_true_eq];omega)]
  have:=List.countP_pos_iff (p:=ngF) (l:=m) |>.2 ⟨m[i],List.getElem_mem hi,decide_eq_true h⟩
  omega
 have h2:(mat m i k).countP ngF≤(m.set i (k:Int)).countP ngF:=by
  rw [mat,List.countP_set (by rw [List.length_set];exact hk),if_neg (c:=ngF (i:Int)=true) (by rw [ngF,decide_eq_true_eq];omega)]
  omega
 omega
theorem zNF {m:List Int} (h:m.countP ngF=0):m.findIdx ngF=m.length:=by
 rw [List.findIdx_eq_length]
 intro y hy
 have:=List.countP_eq_zero.1 h y hy
 simpa using this
theorem zNG:∀ {f:Nat} {m:List Int},m.length≤6→(alls f m).length≤6 ^ f
 | 0,m,h=>Nat.le_refl _
 | f+1,m,h=>by
  have hp:0 < 6 ^ f:=Nat.pow_pos (by decide)
  rw [alls,Nat.pow_succ]
  split
  ·show 1≤_;omega
  ·refine Nat.le_trans (zDo (B:=6 ^ f) fun k _=>?_) ?_
   ·split
    ·exact zNG (by rw [zND];exact h)
    ·exact Nat.zero_le _
   ·rw [List.length_range']
    exact Nat.le_trans (Nat.mul_le_mul_right _ (show _≤6 by omega)) (by omega)
theorem zNH {f i k:Nat} {m:List Int} (h:m.length≤6):(allB (alls f) m i k).length≤(k - i) * 6 ^ f:=by
 have:=zDo (B:=6 ^ f) (l:=List.range' i (k - i)) (F:=fun k=>if m.getD k 0 < 0 then alls f (mat m i k) else []) fun k _=>by
  split
  ·exact zNG (by rw [zND];exact h)
  ·exact Nat.zero_le _
 rwa [List.length_range'] at this
theorem zNI {m:List Int} {i j:Nat} {a:Int} (hi:i < m.length):(m.set i a).getD j 0=if i=j then a else m.getD j 0:=by
 rw [List.getD_eq_getElem?_getD,List.getElem?_set]
 by_cases e:i=j
 ·subst e;simp [hi]
 ·simp [e,List.getD_eq_getElem?_getD]
def PM (n:Nat) (m:List Int):Prop:=m.length=n∧∀ j,j < n→m.getD j 0=-1∨∃ l,l < n∧m.getD j 0=(l:Int)∧m.getD l 0=(j:Int)
theorem zNJ {m:List Int} {i k j:Nat} (hi:i < m.length) (hk:k < m.length):(mat m i k).getD j 0=if k=j then (i:Int) else if i=j then (k:Int) else m.getD j 0:=by
 rw [mat,zNI (by rw [List.length_set];exact hk),zNI hi]
theorem zNK {n:Nat} {m:List Int} {i k:Nat} (H:PM n m) (hi:i < n) (hk:k < n) (ni:m.getD i 0 < 0) (nk:m.getD k 0 < 0):PM n (mat m i k):=by
 obtain ⟨rfl,H⟩:=H
 refine ⟨zND,fun j hj=>?_⟩
 rw [zNJ hi hk]
 by_cases e1:k=j
 ·subst e1
  refine .inr ⟨i,hi,by rw [if_pos rfl],?_⟩
  rw [zNJ hi hk]
  by_cases e:k=i
  ·rw [if_pos e,e]
  ·rw [if_neg e,if_pos rfl]
 ·rw [if_neg e1]
  by_cases e2:i=j
  ·subst e2
   exact .inr ⟨k,hk,by rw [if_pos rfl],by rw [zNJ hi hk,if_pos rfl]⟩
  ·rw [if_neg e2]
   refine (H j hj).imp id fun ⟨l,hl,h1,h2⟩=>⟨l,hl,h1,?_⟩
   rw [zNJ hi hk,if_neg (fun e=>by subst e;omega),if_neg (fun e=>by subst e;omega),h2]
theorem zNL {n:Nat} {m:List Int} (H:PM n m) (h:m.findIdx ngF=m.length):zJt n m:=by
 obtain ⟨rfl,H⟩:=H
 have nn:∀ i (hi:i < m.length),¬ m[i] < 0:=fun i hi=>by
  have:=List.findIdx_eq_length.1 h m[i] (List.getElem_mem hi)
  exact of_decide_eq_false this
 have key:∀ i (hi:i < m.length),∃ l,l < m.length∧m[i]=(l:Int)∧m.getD l 0=(i:Int):=fun i hi=>by
  have e:m.getD i 0=m[i]:=by simp [List.getD_eq_getElem?_getD,hi]
  have h1:=H i hi
  rw [e] at h1
  rcases h1 with h1|h1
  ·have:=nn i hi;omega
  ·exact h1
 refine ⟨rfl,fun i hi=>?_,fun i hi=>?_⟩
 ·obtain ⟨l,hl,e,_⟩:=key i hi
  omega
 ·obtain ⟨l,hl,e,e2⟩:=key i hi
  rw [e,jW,e2]
theorem zNM {n:Nat}:∀ {f:Nat} {m:List Int},PM n m→m.countP ngF≤f→∀ r ∈ alls f m,zJt n r
 | 0,m,H,hc,r,hr=>by
  rw [alls,List.mem_singleton] at hr
  subst hr
  exact zNL H (zNF (by omega))
 | f+1,m,H,hc,r,hr=>by
  rw [alls] at hr
  split at hr
  ·next h=>rw [List.mem_singleton] at hr;subst hr;exact zNL H h
  ·next h =>
   have hle:m.findIdx ngF≤m.length:=List.findIdx_le_length
   obtain ⟨k,hk,hr⟩:=List.mem_flatMap.1 hr
   rw [List.mem_range'_1] at hk
   have hil:m.findIdx ngF < m.length:=by omega
   have hn:=List.findIdx_getElem (p:=ngF) (xs:=m) (w:=hil)
   have hn:m[m.findIdx ngF] < 0:=of_decide_eq_true hn
   split at hr
   ·next h2 =>
    have hkl:k < m.length:=by omega
    exact zNM (zNK H (by rw [← H.1];exact hil) (by rw [← H.1];exact hkl) (by simpa [List.getD_eq_getElem?_getD,hil] using hn) h2) (by have:=zNE hil hn hkl;omega) r hr
   ·cases hr
theorem zNN {n:Nat}:PM n (List.replicate n (-1)):=by
 refine ⟨List.length_replicate,fun j hj=>.inl ?_⟩
 simp [List.getD_eq_getElem?_getD,List.getElem?_replicate,hj]
theorem zNO {n:Nat}:(List.replicate n (-1:Int)).countP ngF≤n:=by
 have:=List.countP_le_length (p:=ngF) (l:=List.replicate n (-1:Int))
 rwa [List.length_replicate] at this
def bmS (B:List Int→Int × Bool) (st:Option (List Int × Int)) (m:List Int):Option (List Int × Int) :=
 match st with
 | none=>if (B m).2=true then some (m,(B m).1) else none
 | some s=>if (B m).2=true∧s.2 < (B m).1 then some (m,(B m).1) else some s
def oBm (st:Option (List Int × Int)):List Int × Int × Bool:=match st with
 | none=>([],0,false)
 | some s=>(s.1,s.2,true)
noncomputable def zNP (x:PHarbour) (a:List DCall):List Int × Int × Bool:=if zAP x a=true then oBm ((alls a.length (List.replicate a.length (-1))).foldl (bmS (zNn x a)) none) else ([],0,false)
def BM (st:Option (List Int × Int)) (l:List Int) (most:Int) (fo:Bool):Prop:=match st with
 | none=>fo=false∧l=[]∧most=0
 | some s=>fo=true∧l=s.1∧most=s.2
theorem zNQ {st:Option (List Int × Int)} {l:List Int} {most:Int} {fo:Bool} (h:BM st l most fo):oBm st=(l,most,fo):=by
 cases st with
 | none=>obtain ⟨rfl,rfl,rfl⟩:=h;rfl
 | some s=>obtain ⟨rfl,rfl,rfl⟩:=h;rfl
theorem zNR {st:Option (List Int × Int)} {l m:List Int} {most b:Int} {fo:Bool} {B:List Int→Int × Bool} (h:BM st l most fo) (hb:B m=(b,true)) (hc:fo=false∨most < b):BM (bmS B st m) m b true:=by
 cases st with
 | none=>simp only [bmS,hb,if_true];exact ⟨rfl,rfl,rfl⟩
 | some s =>
  obtain ⟨rfl,rfl,rfl⟩:=h
  have:s.2 < b:=hc.resolve_left (by decide)
  simp only [bmS,hb,true_and,this,if_true]
  exact ⟨rfl,rfl,rfl⟩
theorem zNS {st:Option (List Int × Int)} {l m:List Int} {most:Int} {fo:Bool} {B:List Int→Int × Bool} (h:BM st l most fo) (hc:(B m).2=true→fo=true∧¬ most < (B m).1):BM (bmS B st m) l most fo:=by
 cases st with
 | none =>
  obtain ⟨rfl,rfl,rfl⟩:=h
  simp only [bmS]
  rw [if_neg fun e=>by have:=(hc e).1;cases this]
  exact ⟨rfl,rfl,rfl⟩
 | some s =>
  obtain ⟨rfl,rfl,rfl⟩:=h
  simp only [bmS]
  rw [if_neg fun e=>(hc e.1).2 e.2]
  exact ⟨rfl,rfl,rfl⟩
theorem zNT {m:List Int} {i k:Nat} (hi:i < m.length) (hk:k < m.length) (ei:m[i]=-1) (ek:m[k]=-1):(((m.set i (k:Int)).set k (i:Int)).set i (-1)).set k (-1)=m:=by
 refine List.ext_getElem (by simp) fun j h1 h2=>?_
 simp only [List.getElem_set]
 by_cases e1:k=j
 ·subst e1;rw [if_pos rfl,ek]
 ·rw [if_neg e1]
  by_cases e2:i=j
  ·subst e2;rw [if_pos rfl,ei]
  ·rw [if_neg e2,if_neg e1,if_neg e2]
theorem zNU {B:List Int→Int × Bool}:∀ {l:List (List Int)} {st:Option (List Int × Int)} {s:List Int × Int},l.foldl (bmS B) st=some s→s.1 ∈ l∨st=some s
 | [],st,s,h=>.inr h
 | m :: l,st,s,h=>by
  rw [List.foldl_cons] at h
  rcases zNU h with h|h
  ·exact .inl (List.mem_cons_of_mem _ h)
  ·cases st with
   | none =>
    simp only [bmS] at h
    split at h
    ·cases h;exact .inl (List.mem_cons_self ..)
    ·cases h
   | some z =>
    simp only [bmS] at h
    split at h
    ·cases h;exact .inl (List.mem_cons_self ..)
    ·exact .inr h
theorem zNV {n:Nat}:∀ y ∈ List.replicate n (-1:Int),y=-1∨(0≤y∧y < 6):=fun y hy=>.inl (List.eq_of_mem_replicate hy)
theorem zNW {B:List Int→Int × Bool} {n:Nat} (h6:n≤6) {s:List Int × Int} (h:(alls n (List.replicate n (-1))).foldl (bmS B) none=some s):∀ y ∈ s.1,I64 y:=by
 rcases zNU h with h|h
 ·obtain ⟨e,H,_⟩:=zNM zNN zNO _ h
  intro y hy
  obtain ⟨i,hi,rfl⟩:=List.getElem_of_mem hy
  have:=H i hi
  unfold I64;omega
 ·cases h
theorem zNX {B:List Int→Int × Bool} {n:Nat} (h6:n≤6) {l:List Int} {most:Int} {fo:Bool} (h:BM ((alls n (List.replicate n (-1))).foldl (bmS B) none) l most fo):∀ y ∈ l,I64 y:=by
 cases hs:(alls n (List.replicate n (-1))).foldl (bmS B) none with
 | none=>rw [hs] at h;obtain ⟨_,rfl,_⟩:=h;intro y hy;cases hy
 | some s=>rw [hs] at h;obtain ⟨_,rfl,_⟩:=h;exact zNW h6 hs
structure MV (hb h:Hp) (bx bc bf bm bb:Nat) (x:DHarbour) (a:Sl DCall) (mt be:Sl Int) (most:Int) (fo:Bool):Prop where
 le:hb.le h
 ox:Enc.ok hb x
 oa:a.Ok hb
 qx:hb bx=some (.cells [.int .i64 x.forecast.tide.mean,x.forecast.tide.parts.val,x.forecast.surges.val,x.chart.points.val,x.chart.segments.val,x.fleet.val,.int .i64 x.regime.gap,.bool x.regime.noMeet,.int .i64 x.crew.tugs,.int .i64 x.crew.pilots,.int .i64 x.crew.rest,x.crew.moves.val].toArray 58 (0,0))
 qc:hb bc=some (.cells [a.val].toArray 60 (0,0))
 nf:hb bf=none
 nm:hb bm=none
 nb:hb bb=none
 d1:bf ≠ bm
 d2:bf ≠ bb
 d3:bm ≠ bb
 qf:h bf=some (.cells [Value.bool fo].toArray 4 (0,0))
 qm:h bm=some (.cells [Value.int .i64 most].toArray 3 (0,0))
 qb:h bb=some (.cells [be.val].toArray 35 (0,0))
 rm:RowAt 3 h mt
 fm:∀ g,mt.a=some ⟨g,0,none⟩→hb g=none∧g ≠ bf∧g ≠ bm∧g ≠ bb
 rb:RowAt 3 h be
 fb:∀ g,be.a=some ⟨g,0,none⟩→hb g=none∧g ≠ bf∧g ≠ bm∧g ≠ bb
 ap:Apart mt be
section
variable {hb h h2:Hp} {bx bc bf bm bb:Nat} {x:DHarbour} {a:Sl DCall} {mt be q:Sl Int} {most:Int} {fo:Bool}
theorem zNY (H:MV hb h bx bc bf bm bb x a mt be most fo):h.lds (some ⟨bx,0,none⟩) 12=some [.int .i64 x.forecast.tide.mean,x.forecast.tide.parts.val,x.forecast.surges.val,x.chart.points.val,x.chart.segments.val,x.fleet.val,.int .i64 x.regime.gap,.bool x.regime.noMeet,.int .i64 x.crew.tugs,.int .i64 x.crew.pilots,.int .i64 x.crew.rest,x.crew.moves.val]∧h.lds (some ⟨bc,0,none⟩) 1=some [a.val]∧h.lds (some ⟨bf,0,none⟩) 1=some [.bool fo]∧h.lds (some ⟨bm,0,none⟩) 1=some [.int .i64 most]∧h.lds (some ⟨bb,0,none⟩) 1=some [be.val] :=
 ⟨zx7 (H.le _ _ H.qx) rfl (by simp),zx7 (H.le _ _ H.qc) rfl (by simp),zx7 H.qf rfl (by simp),zx7 H.qm rfl (by simp),zx7 H.qb rfl (by simp)⟩
theorem MV.grow (H:MV hb h bx bc bf bm bb x a mt be most fo) (hle:h.le h2):MV hb h2 bx bc bf bm bb x a mt be most fo :=
 ⟨Hp.le_trans H.le hle,H.ox,H.oa,H.qx,H.qc,H.nf,H.nm,H.nb,H.d1,H.d2,H.d3,hle _ _ H.qf,hle _ _ H.qm,hle _ _ H.qb,zKv H.rm hle,H.fm,zKv H.rb hle,H.fb,H.ap⟩
theorem MV.set (H:MV hb h bx bc bf bm bb x a mt be most fo) {i:Nat} (u:Int) (hi:i < mt.l.length):∃ g cur,mt.a=some ⟨g,0,none⟩∧h g=some (.cells cur 3 (0,0))∧hb g=none∧i+1≤cur.size∧MV hb (h.ins g (.cells (spl i [.int .i64 u] cur.toList).toArray 3 (0,0))) bx bc bf bm bb x a ⟨mt.a,mt.cap,mt.l.set i u⟩ be most fo:=by
 obtain ⟨g,cur,ga,gb,gs,R⟩:=zLb (u:=u) H.rm hi
 obtain ⟨f1,f2,f3,f4⟩:=H.fm g ga
 refine ⟨g,cur,ga,gb,f1,gs,⟨fun k o hk=>?_,H.ox,H.oa,H.qx,H.qc,H.nf,H.nm,H.nb,H.d1,H.d2,H.d3,?_,?_,?_,R,H.fm,?_,H.fb,H.ap⟩⟩
 ·rw [Hp.ins_ne (fun e=>by subst e;rw [f1] at hk;cases hk)]
  exact H.le k o hk
 ·rw [Hp.ins_ne (Ne.symm f2)];exact H.qf
 ·rw [Hp.ins_ne (Ne.symm f3)];exact H.qm
 ·rw [Hp.ins_ne (Ne.symm f4)];exact H.qb
 ·exact H.rb.keep fun g' hg'=>Hp.ins_ne fun e=>by subst e;exact H.ap _ ga hg'
theorem MV.new (H:MV hb h bx bc bf bm bb x a mt be most fo) {m':Int} (rq:RowAt 3 h q) (fq:∀ g,q.a=some ⟨g,0,none⟩→hb g=none∧g ≠ bf∧g ≠ bm∧g ≠ bb) (aq:Apart mt q) :
  MV hb (((h.ins bb (.cells [q.val].toArray 35 (0,0))).ins bm (.cells [Value.int .i64 m'].toArray 3 (0,0))).ins bf (.cells [Value.bool true].toArray 4 (0,0))) bx bc bf bm bb x a mt q m' true:=by
 refine ⟨fun k o hk=>?_,H.ox,H.oa,H.qx,H.qc,H.nf,H.nm,H.nb,H.d1,H.d2,H.d3,Hp.ins_same,?_,?_,?_,H.fm,?_,fq,aq⟩
 ·rw [Hp.ins_ne (fun e=>by subst e;rw [H.nf] at hk;cases hk),Hp.ins_ne (fun e=>by subst e;rw [H.nm] at hk;cases hk),Hp.ins_ne (fun e=>by subst e;rw [H.nb] at hk;cases hk)]
  exact H.le k o hk
 ·rw [Hp.ins_ne (Ne.symm H.d1)];exact Hp.ins_same
 ·rw [Hp.ins_ne (Ne.symm H.d2),Hp.ins_ne (Ne.symm H.d3)];exact Hp.ins_same
 ·refine H.rm.keep fun g hg=>?_
  obtain ⟨_,f2,f3,f4⟩:=H.fm g hg
  rw [Hp.ins_ne f2,Hp.ins_ne f3,Hp.ins_ne f4]
 ·refine rq.keep fun g hg=>?_
  obtain ⟨_,f2,f3,f4⟩:=fq g hg
  rw [Hp.ins_ne f2,Hp.ins_ne f3,Hp.ins_ne f4]
end
set_option maxRecDepth 30000 in
theorem zNZ (hb:Hp) (bx bc bf bm bb:Nat) (x:DHarbour) (a:Sl DCall) (mt be:Sl Int) (most:Int) (fo:Bool) (st:Option (List Int × Int)) (h:Hp) (H:MV hb h bx bc bf bm bb x a mt be most fo) (hst:BM st be.l most fo) (hl:mt.l.length≤1048576) (hI:∀ y ∈ mt.l,I64 y) :
  Cw jV 93 [mt.val,.pointer (some ⟨bx,0,none⟩),.pointer (some ⟨bc,0,none⟩),.pointer (some ⟨bf,0,none⟩),.pointer (some ⟨bm,0,none⟩),.pointer (some ⟨bb,0,none⟩)] h (fun k=>hb k=none∧h k ≠ none) fun v h'=>∃ (be':Sl Int) (most':Int) (fo':Bool),MV hb h' bx bc bf bm bb x a mt be' most' fo'∧BM (bmS (zNn (Con.con x) a.l) st mt.l) be'.l most' fo':=by
 have hx:=Enc.mono H.le H.ox
 have ha:a.Ok h:=H.oa.mono H.le
 have hm:mt.Ok h:=H.rm.ok (by decide) hI
 obtain ⟨⟨b,ok⟩,hB⟩:∃ B,zNn (Con.con x) a.l mt.l=B:=⟨_,rfl⟩
 have hbo:=zNv x a mt h hx ha hm
 rw [zAQ,con_ints,hB] at hbo
 obtain ⟨q0,q1,q2,q3,q4⟩:=zNY H
 refine zlI (fun A W=>by simp) Tryz.func93 rfl rfl (by simp)  (fun k hk=>hk.2) fun W0 hW=>?_
 have own:∀ k,hb k=none→h k=none∨W0.own k:=fun k hk=>by
  cases hh:h k with
  | none=>exact .inl rfl
  | some o=>exact .inr (hW k ⟨hk,by rw [hh];simp⟩)
 repeat' first|refine Wa ?_|refine zhF (fun _=>hbo) ?_|(simp only [go_sem,jq,jj,jy,jv,jk,jx,q0,q1,q2,q3,q4,true_or,true_and,and_true,implies_true];try rfl)|refine Wb ?_|fail
 refine zc9 rfl (fun hc=>?_) (fun hc=>?_)
 ·have hc':ok=true∧(fo=false∨most < b):=by
   simp only [jJ,jQ,Bool.not_eq_true'] at hc
   exact ⟨hc.1,hc.2.imp id of_decide_eq_true⟩
  obtain ⟨rfl,hc2⟩:=hc'
  first|refine zyi [0,0,0,1,1,1] rfl ?_|refine zyh [0,0,0,1,1,1] rfl ?_|(refine zc3 ?_;first|refine zyi [0,0,0,1,1,1] rfl ?_|refine zyh [0,0,0,1,1,1] rfl ?_)
  refine Evs ?_
  refine zkr (zES mt _ hm hl) rfl ?_
  rintro v h1 le1 ⟨q,rfl,eq1,Rq,fq⟩
  have H1:=H.grow le1
  refine Evs ?_
  refine zKy (xs':=[q.val]) (by simp only [go_sem]) (by simp only [go_sem]) rfl rfl H1.qb (own bb H.nb) (by simp) rfl ?_
  try simp only [go_sem,jq,jj,jy,jv,jk,jx]
  refine zKy (xs':=[.int .i64 b]) (by simp only [go_sem]) (by simp only [go_sem]) rfl rfl ((Hp.ins_ne H.d3).trans H1.qm) (own bm H.nm) (by simp) rfl ?_
  try simp only [go_sem,jq,jj,jy,jv,jk,jx]
  refine zKy (xs':=[.bool true]) (by simp only [go_sem]) (by simp only [go_sem]) rfl rfl ((Hp.ins_ne H.d1).trans ((Hp.ins_ne H.d2).trans H1.qf)) (own bf H.nf) (by simp) rfl ?_
  try simp only [go_sem,jq,jj,jy,jv,jk,jx]
  refine Wk ?_
  have hnn:∀ {k:Nat} {o:Obj},h k=some o→∀ g,q.a=some ⟨g,0,none⟩→g ≠ k:=fun hk g hg e=>by
   rw [← e,fq g hg] at hk;cases hk
  exact ⟨q,b,true,MV.new H1 Rq (fun g hg=>⟨znC H.le (fq g hg),hnn H.qf g hg,hnn H.qm g hg,hnn H.qb g hg⟩) (fun g hg hq=>zIm H.rm hg (fq g hq)),by rw [eq1];exact zNR hst hB hc2⟩
 ·have hc':ok=true→fo=true∧¬ most < b:=by
   intro e
   subst e
   simp only [Bool.true_and,jp,Bool.not_eq_false'] at hc
   exact ⟨hc.1,of_decide_eq_false hc.2⟩
  refine Wk ?_
  exact ⟨be,most,fo,H,zNS hst fun e=>by rw [hB] at e ⊢;exact hc' e⟩
set_option maxRecDepth 30000 in
theorem zN0 (hb:Hp) (bx bc bf bm bb:Nat) (x:DHarbour) (a:Sl DCall) :
  ∀ (f:Nat) (mt be:Sl Int) (most:Int) (fo:Bool) (st:Option (List Int × Int)) (h:Hp),MV hb h bx bc bf bm bb x a mt be most fo→BM st be.l most fo→mt.l.length≤6→(∀ y ∈ mt.l,y=-1∨(0≤y∧y < 6))→mt.l.countP ngF≤f →
   Cw jV 92 [mt.val,.func (.func 93) #[] #[.pointer (some ⟨bx,0,none⟩),.pointer (some ⟨bc,0,none⟩),.pointer (some ⟨bf,0,none⟩),.pointer (some ⟨bm,0,none⟩),.pointer (some ⟨bb,0,none⟩)]] h (fun k=>hb k=none∧h k ≠ none) fun v h'=>∃ (be':Sl Int) (most':Int) (fo':Bool),MV hb h' bx bc bf bm bb x a mt be' most' fo'∧BM ((alls f mt.l).foldl (bmS (zNn (Con.con x) a.l)) st) be'.l most' fo':=by
 intro f
 induction f using Nat.strongRecOn with
 | _ f ih =>
 intro mt be most fo st h H hst hl hin hcnt
 have hI:∀ y ∈ mt.l,I64 y:=fun y hy=>by
  have:=hin y hy
  unfold I64;omega
 have hm:mt.Ok h:=H.rm.ok (by decide) hI
 have hmax:=hm.max
 refine zlI (fun A W=>by simp) Tryz.func92 rfl rfl (by simp)  (fun k hk=>hk.2) fun W0 hW=>?_
 have own:∀ k,hb k=none→h k=none∨W0.own k:=fun k hk=>by
  cases hh:h k with
  | none=>exact .inl rfl
  | some o=>exact .inr (hW k ⟨hk,by rw [hh];simp⟩)
 refine Wk ?_
 refine zEE (ι:=Nat) (fun i=>⟨[(0,true,.c (.v mt.val)),(1,true,.c (.v (.func (.func 93) #[] #[.pointer (some ⟨bx,0,none⟩),.pointer (some ⟨bc,0,none⟩),.pointer (some ⟨bf,0,none⟩),.pointer (some ⟨bm,0,none⟩),.pointer (some ⟨bb,0,none⟩)]))),(4,true,.c (.v (.int .i64 i)))],[],h,0⟩) (fun i=>i≤mt.l.length∧∀ j (hj:j < mt.l.length),j < i→¬ mt.l[j] < 0) (fun i=>mt.l.length - i) 0 ⟨Nat.zero_le _,fun j _ hj=>absurd hj (Nat.not_lt_zero j)⟩ [] ?_ ?_
 ·refine Evs ?_
  exact Gk
 rintro i ⟨hi,hneg⟩
 rcases Nat.lt_or_ge i mt.l.length with hlt|hge
 ·have hlti:(i:Int) < mt.l.length:=by omega
  have hd:decide ((i:Int) < mt.l.length)=true:=decide_eq_true hlti
  repeat' first|refine Wa ?_|(simp only [go_sem,jq,jj,jy,jv,jk,jx,zkR hm hlt,hm.some hlt,hlt,hlti,jW,jY,implies_true,true_and,and_true,and_self];try rfl)|refine Wb ?_|fail
  refine zc9 rfl (fun hq=>?_) (fun hq=>?_)
  ·have hq:0≤mt.l[i]:=by simpa using hq
   refine Wk ?_
   refine ⟨i+1,[],⟨hlt,fun j hj hji=>?_⟩,by omega,?_⟩
   ·rcases Nat.lt_or_ge j i with h9|h9
    ·exact hneg j hj h9
    ·obtain rfl:j=i:=by omega
     omega
   try simp only [go_sem,jq,jj,jy,jv,jk,jx]
   exact Gi (zjA hlt (by omega))
  have hq:mt.l[i] < 0:=by simpa using hq
  have hie:mt.l[i]=-1:=by have:=hin _ (List.getElem_mem hlt);omega
  have hfx:=zNy hlt hq hneg
  obtain ⟨f1,rfl⟩:∃ f1,f=f1+1:=⟨f - 1,by
   have:=List.countP_pos_iff (p:=ngF) (l:=mt.l) |>.2 ⟨mt.l[i],List.getElem_mem hlt,decide_eq_true hq⟩
   omega⟩
  have hne:¬ ((i:Int)=mt.l.length):=by omega
  refine Wk ?_
  refine zc9 rfl (fun hz=>?_) (fun hz=>?_)
  ·exact absurd (eq_of_beq hz) hne
  refine Wk ?_
  refine zEE (ι:=Nat × Hp × Sl Int × Int × Bool) (fun k=>⟨[(0,true,.c (.v mt.val)),(1,true,.c (.v (.func (.func 93) #[] #[.pointer (some ⟨bx,0,none⟩),.pointer (some ⟨bc,0,none⟩),.pointer (some ⟨bf,0,none⟩),.pointer (some ⟨bm,0,none⟩),.pointer (some ⟨bb,0,none⟩)]))),(4,true,.c (.v (.int .i64 i))),(5,true,.c (.v (.int .i64 k.1)))],[],k.2.1,0⟩)
   (fun k=>i≤k.1∧k.1≤mt.l.length∧MV hb k.2.1 bx bc bf bm bb x a mt k.2.2.1 k.2.2.2.1 k.2.2.2.2∧BM ((allB (alls f1) mt.l i k.1).foldl (bmS (zNn (Con.con x) a.l)) st) k.2.2.1.l k.2.2.2.1 k.2.2.2.2) (fun k=>mt.l.length - k.1) (i,h,be,most,fo) ⟨Nat.le_refl _,hi,H,by simp only [zNB,List.foldl_nil];exact hst⟩ [] ?_ ?_
  ·refine Evs ?_
   exact Gk
  rintro ⟨k,hk,b1,m1,o1⟩ ⟨hik,hkl,H1,hB1⟩
  simp only at hik hkl H1 hB1
  have hmk:mt.Ok hk:=H1.rm.ok (by decide) hI
  refine Wk ?_
  refine zc9 rfl (fun hd=>?_) (fun hd=>?_)
  ·have hkt:k < mt.l.length:=by have:=of_decide_eq_true hd;omega
   have hkti:(k:Int) < mt.l.length:=by omega
   have hgd:mt.l.getD k 0=mt.l[k]:=by simp [List.getD_eq_getElem?_getD,hkt]
   repeat' first|refine Wa ?_|(simp only [go_sem,jq,jj,jy,jv,jk,jx,zkR hmk hkt,hmk.some hkt,hkt,hkti,jW,jY,implies_true,true_and,and_true,and_self];try rfl)|refine Wb ?_|fail
   refine zc9 rfl (fun hn=>?_) (fun hn=>?_)
   ·have hn:mt.l[k] < 0:=of_decide_eq_true hn
    have hke:mt.l[k]=-1:=by have:=hin _ (List.getElem_mem hkt);omega
    obtain ⟨g,cur,ga,gb,gn,gs,H2⟩:=H1.set (i:=i) (k:Int) hlt
    obtain ⟨g',cur2,ga',gb2,gn2,gs2,H3⟩:=H2.set (i:=k) (i:Int) (by rw [List.length_set];exact hkt)
    obtain rfl:g=g':=by
     have:=ga.symm.trans ga'
     cases this
     rfl
    have hsz:(mt.l.set i (k:Int)).set k (i:Int)=mat mt.l i k:=rfl
    rw [hsz] at H3
    have hv3:(Sl.mk mt.a mt.cap (mat mt.l i k)).val=mt.val:=by simp only [Sl.val,zND]
    first|refine zyi [0,0,0,0,0,0,0,1,0,1] rfl ?_|refine zyh [0,0,0,0,0,0,0,1,0,1] rfl ?_|(refine zc3 ?_;first|refine zyi [0,0,0,0,0,0,0,1,0,1] rfl ?_|refine zyh [0,0,0,0,0,0,0,1,0,1] rfl ?_)
    simp only [go_sem,jq,jj,jy,jv,jk,jx,ga,hlt,hlti,hkt,hkti,Option.map_some,za4,Option.isSome_some,jW,jY,Nat.mul_one,Nat.zero_add,Nat.add_zero,List.toList_toArray,implies_true,true_and,and_true,and_self,true_or]
    refine zl3 (by simp only [go_sem]) (by simp only [go_sem]) rfl rfl gb (own g gn) gs ?_
    simp only [go_sem,jq,jj,jy,jv,jk,jx,ga,hlt,hlti,hkt,hkti,Option.map_some,za4,Option.isSome_some,jW,jY,Nat.mul_one,Nat.zero_add,Nat.add_zero,List.toList_toArray,implies_true,true_and,and_true,and_self,true_or]
    refine zl3 (by simp only [go_sem]) (by simp only [go_sem]) rfl rfl gb2 (own g gn) gs2 ?_
    try simp only [go_sem,jq,jj,jy,jv,jk,jx]
    generalize (hk.ins g (.cells (spl i [.int .i64 (k:Int)] cur.toList).toArray 3 (0,0))).ins g (.cells (spl k [.int .i64 (i:Int)] cur2.toList).toArray 3 (0,0))=h3 at H3 ⊢
    have C:=ih f1 (by omega) (Sl.mk mt.a mt.cap (mat mt.l i k)) b1 m1 o1 _ h3 H3 hB1 (by simp only [zND];exact hl) (fun y hy=>by
     have hy:y ∈ (mt.l.set i (k:Int)).set k (i:Int):=hy
     rcases List.mem_or_eq_of_mem_set hy with hy|rfl
     ·rcases List.mem_or_eq_of_mem_set hy with hy|rfl
      ·exact hin y hy
      ·exact .inr (by omega)
     ·exact .inr (by omega)) (by have:=zNE hlt hq hkt;show (mat mt.l i k).countP ngF≤f1;omega)
    rw [hv3] at C
    first|refine zyi [0,0,1] rfl ?_|refine zyh [0,0,1] rfl ?_|(refine zc3 ?_;first|refine zyi [0,0,1] rfl ?_|refine zyh [0,0,1] rfl ?_)
    try simp only [go_sem,jq,jj,jy,jv,jk,jx]
    refine zlJ C rfl (fun g' hg'=>⟨hg'.2,own g' hg'.1⟩) ?_
    rintro v h4 kp ⟨b4,m4,o4,H4,hB4⟩
    try simp only [go_sem,jq,jj,jy,jv,jk,jx]
    obtain ⟨g5,cur5,ga5,gb5,gn5,gs5,H5⟩:=H4.set (i:=i) (-1) (by simp only [zND];exact hlt)
    obtain rfl:g=g5:=by
     have:=ga.symm.trans ga5
     cases this
     rfl
    obtain ⟨g6,cur6,ga6,gb6,gn6,gs6,H6⟩:=H5.set (i:=k) (-1) (by simp only [List.length_set,zND];exact hkt)
    obtain rfl:g=g6:=by
     have:=ga.symm.trans ga6
     cases this
     rfl
    have hbk:((mat mt.l i k).set i (-1)).set k (-1)=mt.l:=zNT hlt hkt hie hke
    simp only [hbk] at H6
    first|refine zyi [0,0,0,0,0,1,0,1] rfl ?_|refine zyh [0,0,0,0,0,1,0,1] rfl ?_|(refine zc3 ?_;first|refine zyi [0,0,0,0,0,1,0,1] rfl ?_|refine zyh [0,0,0,0,0,1,0,1] rfl ?_)
    simp only [go_sem,jq,jj,jy,jv,jk,jx,ga,hlt,hlti,hkt,hkti,Option.map_some,za4,Option.isSome_some,jW,jY,Nat.mul_one,Nat.zero_add,Nat.add_zero,List.toList_toArray,implies_true,true_and,and_true,and_self,true_or]
    refine zl3 (by simp only [go_sem]) (by simp only [go_sem]) rfl rfl gb5 (own g gn) gs5 ?_
    simp only [go_sem,jq,jj,jy,jv,jk,jx,ga,hlt,hlti,hkt,hkti,Option.map_some,za4,Option.isSome_some,jW,jY,Nat.mul_one,Nat.zero_add,Nat.add_zero,List.toList_toArray,implies_true,true_and,and_true,and_self,true_or]
    refine zl3 (by simp only [go_sem]) (by simp only [go_sem]) rfl rfl gb6 (own g gn) gs6 ?_
    try simp only [go_sem,jq,jj,jy,jv,jk,jx]
    generalize (h4.ins g (.cells (spl i [.int .i64 (-1)] cur5.toList).toArray 3 (0,0))).ins g (.cells (spl k [.int .i64 (-1)] cur6.toList).toArray 3 (0,0))=h6 at H6 ⊢
    refine Wk ?_
    refine ⟨(k+1,h6,b4,m4,o4),[],⟨by simp only;omega,hkt,H6,?_⟩,by simp only;omega,?_⟩
    ·simp only
     rw [zNC hik,if_pos (by rw [hgd];exact hn),List.foldl_append]
     exact hB4
    try simp only [go_sem,jq,jj,jy,jv,jk,jx]
    exact Gi (zjA hkt (by omega))
   ·have hn:¬ mt.l[k] < 0:=of_decide_eq_false hn
    refine Wk ?_
    refine ⟨(k+1,hk,b1,m1,o1),[],⟨by simp only;omega,hkt,H1,?_⟩,by simp only;omega,?_⟩
    ·simp only
     rw [zNC hik,if_neg (by rw [hgd];exact hn),List.append_nil]
     exact hB1
    try simp only [go_sem,jq,jj,jy,jv,jk,jx]
    exact Gi (zjA hkt (by omega))
  ·have hkn:k=mt.l.length:=by have:=of_decide_eq_false hd;omega
   subst hkn
   refine Wk ?_
   exact ⟨b1,m1,o1,H1,by rw [zNA hfx hlt];exact hB1⟩
 ·obtain rfl:i=mt.l.length:=by omega
  have hfx:=zNx fun j hj=>hneg j hj hj
  have hnl:¬ ((mt.l.length:Int) < mt.l.length):=by omega
  repeat' first|refine Wa ?_|(simp only [go_sem,jq,jj,jy,jv,jk,jx,hnl,decide_false,Bool.false_eq_true,false_implies,Bool.false_and,true_and];try rfl)|refine Wb ?_|fail
  refine zc9 rfl (fun hq=>by cases hq) (fun _=>?_)
  refine Wk ?_
  refine zc9 rfl (fun _=>?_) (fun hz=>?_)
  ·first|refine zyi [0,0,1] rfl ?_|refine zyh [0,0,1] rfl ?_|(refine zc3 ?_;first|refine zyi [0,0,1] rfl ?_|refine zyh [0,0,1] rfl ?_)
   try simp only [go_sem,jq,jj,jy,jv,jk,jx]
   refine zlJ (zNZ hb bx bc bf bm bb x a mt be most fo st h H hst (by omega) hI) rfl (fun g' hg'=>⟨hg'.2,own g' hg'.1⟩) ?_
   rintro v h' kp ⟨b4,m4,o4,H4,hB4⟩
   refine Wk ?_
   exact ⟨b4,m4,o4,H4,by rw [zNz hfx];exact hB4⟩
  ·exact absurd rfl (ne_of_beq_false hz)
set_option maxRecDepth 30000 in
theorem zN1 (x:DHarbour) (a:Sl DCall) (h:Hp) (hx:Enc.ok h x) (ha:a.Ok h):Ct jV 42 [x.v,a.val] h fun v h'=>∃ s:Sl Int,v=.tuple #[s.val,.int .i64 (zNP (Con.con x) (Con.con a)).2.1,.bool (zNP (Con.con x) (Con.con a)).2.2]∧Con.con s=(zNP (Con.con x) (Con.con a)).1∧s.Ok h'∧Mine h h' s:=by
 rw [zAQ]
 have hla:=ha.max
 refine zdn (fun A W=>by simp) Tryz.func42 rfl rfl (by simp) fun W0=>?_
 repeat' first|refine Wa ?_|refine zhF (fun _=>zAS x a _ hx ha) ?_|(simp only [go_sem,jq,jj,jy,jv,jk,jx];try rfl)|refine Wb ?_|fail
 rw [zAQ]
 refine zc9 rfl (fun hc=>?_) (fun hc=>?_)
 ·rw [Bool.not_eq_true'] at hc
  have hF:zNP (Con.con x) a.l=([],0,false):=by rw [zNP,if_neg (by rw [hc];exact Bool.false_ne_true)]
  rw [hF]
  refine Wk ?_
  exact ⟨⟨none,0,[]⟩,rfl,rfl,znp,Mine.nil⟩
 rw [Bool.not_eq_false'] at hc
 have h6:=zJy hc
 rw [zNP,if_pos hc]
 refine Wk ?_
 refine ⟨by simp only [maxLen];omega,by omega,?_⟩
 refine Wk ?_
 refine zde (ι:=Nat) (fun i=>⟨[(2,true,.c (.p 0 0)),(3,true,.c (.p 1 0)),(4,true,.c (.v (.slice none 0 0))),(5,true,.c (.v (.int .i64 0))),(6,true,.c (.v (.bool false))),(7,true,.c (.s 2)),(20,true,.c (.v (.int .i64 a.l.length))),(21,true,.c (.v (.int .i64 i)))],[(2,.row 3 1 a.l.length (conv (List.replicate i (-1:Int)) a.l.length [.int .i64 0])),(1,.box 60 [.v a.val]),(0,.box 58 [.v (.int .i64 x.forecast.tide.mean),.v x.forecast.tide.parts.val,.v x.forecast.surges.val,.v x.chart.points.val,.v x.chart.segments.val,.v x.fleet.val,.v (.int .i64 x.regime.gap),.v (.bool x.regime.noMeet),.v (.int .i64 x.crew.tugs),.v (.int .i64 x.crew.pilots),.v (.int .i64 x.crew.rest),.v x.crew.moves.val])],h,3⟩) (fun i=>i≤a.l.length) (fun i=>a.l.length - i) 0 (Nat.zero_le _) ?_ ?_
 ·refine Evs ?_
  refine ⟨?_,?_⟩
  ·exact Gk
  ·exact zj8 (zkc (α:=Int) (z:=#[.int .i64 0]) (by decide))
 intro k hk
 refine Wk ?_
 refine zc9 rfl (fun hd=>?_) (fun hd=>?_)
 ·have hlt:=zjH hd
  have hlti:(k:Int) < a.l.length:=by omega
  have hle:(List.replicate k (-1:Int)).length=k:=List.length_replicate
  repeat' first|refine Wa ?_|(simp only [go_sem,jq,jj,jy,jv,jk,jx,hlt,hlti,jW,jY];try rfl)|refine Wb ?_|fail
  refine ⟨?_,?_⟩
  ·rw [zj9 (by omega) rfl];exact Nat.le_trans (Nat.le_of_eq (by simp only [Nat.add_mul])) (Nat.mul_le_mul_right 1 (show k+1≤a.l.length from hlt))
  refine Wk ?_
  refine ⟨k+1,hlt,by omega,zjB (zjA hlt (by omega)),?_⟩
  exact zj8 (by rw [List.replicate_succ'];exact zkb hle hlt rfl)
 ·have hge:=zjI hd
  obtain rfl:k=a.l.length:=by omega
  refine zc6 ?_
  refine Evs ?_
  refine zx5 0 rfl rfl fun bx hbx ox=>?_
  refine Evs ?_
  refine zx5 1 rfl rfl fun bc hbc oc=>?_
  refine Evs ?_
  have hbx:h bx=none:=hbx
  have hbc:(h.ins bx (.cells #[.int .i64 x.forecast.tide.mean,x.forecast.tide.parts.val,x.forecast.surges.val,x.chart.points.val,x.chart.segments.val,x.fleet.val,.int .i64 x.regime.gap,.bool x.regime.noMeet,.int .i64 x.crew.tugs,.int .i64 x.crew.pilots,.int .i64 x.crew.rest,x.crew.moves.val] 58 (0,0))) bc=none:=hbc
  have nbc:bx ≠ bc:=fun e=>by rw [← e,Hp.ins_same] at hbc;cases hbc
  have leb:h.le ((h.ins bx (.cells #[.int .i64 x.forecast.tide.mean,x.forecast.tide.parts.val,x.forecast.surges.val,x.chart.points.val,x.chart.segments.val,x.fleet.val,.int .i64 x.regime.gap,.bool x.regime.noMeet,.int .i64 x.crew.tugs,.int .i64 x.crew.pilots,.int .i64 x.crew.rest,x.crew.moves.val] 58 (0,0))).ins bc (.cells #[a.val] 60 (0,0))):=Hp.le_trans (Hp.ins_le hbx) (Hp.ins_le hbc)
  have qx:((h.ins bx (.cells #[.int .i64 x.forecast.tide.mean,x.forecast.tide.parts.val,x.forecast.surges.val,x.chart.points.val,x.chart.segments.val,x.fleet.val,.int .i64 x.regime.gap,.bool x.regime.noMeet,.int .i64 x.crew.tugs,.int .i64 x.crew.pilots,.int .i64 x.crew.rest,x.crew.moves.val] 58 (0,0))).ins bc (.cells #[a.val] 60 (0,0))) bx=some (.cells #[.int .i64 x.forecast.tide.mean,x.forecast.tide.parts.val,x.forecast.surges.val,x.chart.points.val,x.chart.segments.val,x.fleet.val,.int .i64 x.regime.gap,.bool x.regime.noMeet,.int .i64 x.crew.tugs,.int .i64 x.crew.pilots,.int .i64 x.crew.rest,x.crew.moves.val] 58 (0,0)):=by rw [Hp.ins_ne nbc,Hp.ins_same]
  have qc:((h.ins bx (.cells #[.int .i64 x.forecast.tide.mean,x.forecast.tide.parts.val,x.forecast.surges.val,x.chart.points.val,x.chart.segments.val,x.fleet.val,.int .i64 x.regime.gap,.bool x.regime.noMeet,.int .i64 x.crew.tugs,.int .i64 x.crew.pilots,.int .i64 x.crew.rest,x.crew.moves.val] 58 (0,0))).ins bc (.cells #[a.val] 60 (0,0))) bc=some (.cells #[a.val] 60 (0,0)):=Hp.ins_same
  generalize (h.ins bx (.cells #[.int .i64 x.forecast.tide.mean,x.forecast.tide.parts.val,x.forecast.surges.val,x.chart.points.val,x.chart.segments.val,x.fleet.val,.int .i64 x.regime.gap,.bool x.regime.noMeet,.int .i64 x.crew.tugs,.int .i64 x.crew.pilots,.int .i64 x.crew.rest,x.crew.moves.val] 58 (0,0))).ins bc (.cells #[a.val] 60 (0,0))=hb at leb qx qc ⊢
  refine zCP 2 (List.replicate a.l.length (-1:Int)) rfl rfl (by rw [List.length_replicate]) (by exact zka (by rw [List.length_replicate];exact Nat.le_refl _)) fun mt h3 e1 R1 f1 l1 k1=>?_
  refine Evs ?_
  have l1:hb.le h3:=l1
  have f1:∀ g,mt.a=some ⟨g,0,none⟩→hb g=none:=f1
  refine zie rfl ?_
  refine Evs ?_
  refine zie rfl ?_
  refine Evs ?_
  refine zx5 3 rfl rfl fun bb hbb ob=>?_
  refine Evs ?_
  refine zx5 4 rfl rfl fun bm hbm om=>?_
  refine Evs ?_
  refine zx5 5 rfl rfl fun bf hbf of=>?_
  refine Evs ?_
  have hbb:h3 bb=none:=hbb
  have hbm:(h3.ins bb (.cells #[.slice none 0 0] 35 (0,0))) bm=none:=hbm
  have hbf:((h3.ins bb (.cells #[.slice none 0 0] 35 (0,0))).ins bm (.cells #[.int .i64 0] 3 (0,0))) bf=none:=hbf
  have d3:bm ≠ bb:=fun e=>by rw [e,Hp.ins_same] at hbm;cases hbm
  have d1:bf ≠ bm:=fun e=>by rw [e,Hp.ins_same] at hbf;cases hbf
  have d2:bf ≠ bb:=fun e=>by rw [e,Hp.ins_ne (Ne.symm d3),Hp.ins_same] at hbf;cases hbf
  have nm:h3 bm=none:=by rw [Hp.ins_ne d3] at hbm;exact hbm
  have nf:h3 bf=none:=by rw [Hp.ins_ne d1,Hp.ins_ne d2] at hbf;exact hbf
  have le6:h3.le (((h3.ins bb (.cells #[.slice none 0 0] 35 (0,0))).ins bm (.cells #[.int .i64 0] 3 (0,0))).ins bf (.cells #[.bool false] 4 (0,0))):=Hp.le_trans (Hp.ins_le hbb) (Hp.le_trans (Hp.ins_le hbm) (Hp.ins_le hbf))
  have ne3:∀ {k:Nat},h3 k=none→∀ g,mt.a=some ⟨g,0,none⟩→g ≠ k:=fun hk g hg e=>zIm R1 hg (by rw [e];exact hk)
  have M0:MV hb (((h3.ins bb (.cells #[.slice none 0 0] 35 (0,0))).ins bm (.cells #[.int .i64 0] 3 (0,0))).ins bf (.cells #[.bool false] 4 (0,0))) bx bc bf bm bb x a mt (Sl.mk none 0 []) 0 false :=
   ⟨Hp.le_trans l1 le6,Enc.mono leb hx,ha.mono leb,qx,qc,znC l1 nf,znC l1 nm,znC l1 hbb,d1,d2,d3,Hp.ins_same,(Hp.ins_ne (Ne.symm d1)).trans Hp.ins_same,(Hp.ins_ne (Ne.symm d2)).trans ((Hp.ins_ne (Ne.symm d3)).trans Hp.ins_same),zKv R1 le6,fun g hg=>⟨f1 g hg,ne3 nf g hg,ne3 nm g hg,ne3 hbb g hg⟩,⟨Nat.le_refl _,Nat.zero_le _,.inl ⟨rfl,rfl,rfl⟩⟩,fun g hg=>(by cases hg),fun g _ hg=>(by cases hg)⟩
  generalize ((h3.ins bb (.cells #[.slice none 0 0] 35 (0,0))).ins bm (.cells #[.int .i64 0] 3 (0,0))).ins bf (.cells #[.bool false] 4 (0,0))=h6' at M0 ⊢
  have C:=zN0 hb bx bc bf bm bb x a a.l.length mt (Sl.mk none 0 []) 0 false none h6' M0 ⟨rfl,rfl,rfl⟩ (by rw [e1,List.length_replicate];exact h6) (by rw [e1];exact zNV) (by rw [e1];exact zNO)
  rw [e1] at C
  first|refine zyi [0,1,1] rfl ?_|refine zyh [0,1,1] rfl ?_|(refine zc3 ?_;first|refine zyi [0,1,1] rfl ?_|refine zyh [0,1,1] rfl ?_)
  refine Evs ?_
  refine zlJ C rfl (fun k hk=>⟨hk.2,.inl (znC leb hk.1)⟩) ?_
  rintro v h7 kp ⟨be,most,fo,H7,B7⟩
  obtain ⟨q0,q1,q2,q3,q4⟩:=zNY H7
  repeat' first|refine Wa ?_|(simp only [go_sem,jq,jj,jy,jv,jk,jx,q2,q3,q4,true_or,true_and,and_true,implies_true];try rfl)|refine Wb ?_|fail
  refine zyW rfl ?_
  refine U_t [0,1,2,3,4,5] rfl ?_
  simp only [go_sem,jq,jj,jy,jv,jk,jx,q2,q3,q4,true_or,true_and,and_true,implies_true]
  refine U_d ?_
  refine Wk ?_
  have hO:=zNQ B7
  rw [hO]
  exact ⟨be,rfl,con_ints,H7.rb.ok (by decide) (zNX h6 B7),zID H7.rb fun g hg=>znC leb (H7.fb g hg).1⟩
theorem zN2 {m:List Int} {i:Nat} {u:Int} (hi:i < m.length):List.take (i * 1) (m.flatMap Enc.enc) ++ .int .i64 u :: List.drop (i * 1+1) (m.flatMap Enc.enc)=(m.set i u).flatMap Enc.enc:=by
 rw [zCX,zCX,Nat.mul_one,List.map_set]
 exact zCV (by rw [List.length_map];exact hi)
theorem zN3 {m:List Int}:(m.flatMap Enc.enc).length=m.length:=by rw [zCX,List.length_map]
set_option maxRecDepth 30000 in
theorem zN4 :
  ∀ (f:Nat) (m:Sl Int) (out:Sl (Sl Int)) (h:Hp),m.Ok (zCO h out)→WS 35 h out→m.l.length≤6→(∀ y ∈ m.l,y=-1∨(0≤y∧y < 6))→m.l.countP ngF≤f→out.l.length+6 ^ f≤2000000000 →
   Cw jV 90 [m.val,out.val] h (fun k=>out.a=some ⟨k,0,none⟩) (zEP h out (alls f m.l)):=by
 intro f
 induction f using Nat.strongRecOn with
 | _ f ih =>
 intro m out h hmd hW hl hin hcnt hol
 have hm:m.Ok h:=hmd.mono zDk
 have hmax:=hm.max
 refine zlI (fun A W=>by simp) Tryz.func90 rfl rfl (by simp)  (fun k hk=>hW.1.mem hk) fun W0 hWo=>?_
 refine Wk ?_
 refine zEE (ι:=Nat) (fun i=>⟨[(0,true,.c (.v m.val)),(1,true,.c (.v out.val)),(4,true,.c (.v (.slice none 0 0))),(9,true,.c (.v m.val)),(10,true,.c (.v (.int .i64 m.l.length))),(11,true,.c (.v (.int .i64 i)))],[],h,0⟩) (fun i=>i≤m.l.length∧∀ j (hj:j < m.l.length),j < i→¬ m.l[j] < 0) (fun i=>m.l.length - i) 0 ⟨Nat.zero_le _,fun j _ hj=>absurd hj (Nat.not_lt_zero j)⟩ [] ?_ ?_
 ·refine Evs ?_
  exact Gk
 rintro i ⟨hi,hneg⟩
 refine Wk ?_
 refine zc9 rfl (fun hd=>?_) (fun hd=>?_)
 ·have hlt:i < m.l.length:=by have:=of_decide_eq_true hd;omega
  have hlti:(i:Int) < m.l.length:=by omega
  repeat' first|refine Wa ?_|(simp only [go_sem,jq,jj,jy,jv,jk,jx,zkR hm hlt,hm.some hlt,hlt,hlti,jW,jY,implies_true,true_and,and_true,and_self];try rfl)|refine Wb ?_|fail
  refine zc9 rfl (fun hq=>?_) (fun hq=>?_)
  ·have hq:0≤m.l[i]:=of_decide_eq_true hq
   refine Wk ?_
   refine ⟨i+1,[],⟨hlt,fun j hj hji=>?_⟩,by omega,?_⟩
   ·rcases Nat.lt_or_ge j i with h9|h9
    ·exact hneg j hj h9
    ·obtain rfl:j=i:=by omega
     omega
   refine Evs ?_
   exact Gi (zjA hlt (by omega))
  have hq:m.l[i] < 0:=by have:=of_decide_eq_false hq;omega
  have hie:m.l[i]=-1:=by have:=hin _ (List.getElem_mem hlt);omega
  have hfx:=zNy hlt hq hneg
  obtain ⟨f1,rfl⟩:∃ f1,f=f1+1:=⟨f - 1,by
   have:=List.countP_pos_iff (p:=ngF) (l:=m.l) |>.2 ⟨m.l[i],List.getElem_mem hlt,decide_eq_true hq⟩
   omega⟩
  rw [zNA hfx hlt]
  refine Wk ?_
  refine zEE (ι:=Nat × Hp × Sl (Sl Int)) (fun k=>⟨[(0,true,.c (.v m.val)),(1,true,.c (.v k.2.2.val)),(4,true,.c (.v (.slice none 0 0))),(5,true,.c (.v (.int .i64 i))),(7,true,.c (.v (.int .i64 k.1)))],[],k.2.1,0⟩)
   (fun k=>i≤k.1∧k.1≤m.l.length∧WS 35 k.2.1 k.2.2∧(∀ g,k.2.2.a=some ⟨g,0,none⟩→h g=none∨out.a=some ⟨g,0,none⟩)∧(zCO h out).le (zCO k.2.1 k.2.2)∧k.2.2.l.map (·.l)=out.l.map (·.l) ++ allB (alls f1) m.l i k.1) (fun k=>m.l.length - k.1) (i,h,out) ⟨Nat.le_refl _,hi,hW,fun g hg=>.inr hg,Hp.le_refl _,by simp only [zNB,List.append_nil]⟩ [] ?_ ?_
  ·refine Evs ?_
   exact Gk
  rintro ⟨k,hk,o⟩ ⟨hik,hkl,hWk,hfr,hle,hlo⟩
  simp only at hik hkl hWk hfr hle hlo
  have hmk:m.Ok hk:=(hmd.mono hle).mono zDk
  refine Wk ?_
  refine zc9 rfl (fun hd=>?_) (fun hd=>?_)
  ·have hkt:k < m.l.length:=by have:=of_decide_eq_true hd;omega
   have hkti:(k:Int) < m.l.length:=by omega
   have hgd:m.l.getD k 0=m.l[k]:=by simp [List.getD_eq_getElem?_getD,hkt]
   repeat' first|refine Wa ?_|(simp only [go_sem,jq,jj,jy,jv,jk,jx,zkR hmk hkt,hmk.some hkt,hkt,hkti,jW,jY,implies_true,true_and,and_true,and_self];try rfl)|refine Wb ?_|fail
   refine zc9 rfl (fun hn=>?_) (fun hn=>?_)
   ·have hn:m.l[k] < 0:=of_decide_eq_true hn
    have hallm:hk.ldL m.val 1=some (m.l.flatMap Enc.enc):=hmk.all (by decide)
    repeat' first|refine Wa ?_|(simp only [go_sem,jq,jj,jy,jv,jk,jx,hallm,Option.isSome_some,Option.getD_some,true_and,Nat.zero_add,List.nil_append];try rfl)|refine Wb ?_|fail
    refine ⟨fun u hu=>zEQ hu,by simp only [maxLen];omega,by omega,?_⟩
    repeat' first|refine Wa ?_|(simp only [go_sem,jq,jj,jy,jv,jk,jx,hlt,hlti,jW,jY];try rfl)|refine Wb ?_|fail
    refine ⟨by rw [zN3];omega,?_⟩
    rw [zN2 hlt]
    repeat' first|refine Wa ?_|(simp only [go_sem,jq,jj,jy,jv,jk,jx,hkt,hkti,jW,jY];try rfl)|refine Wb ?_|fail
    refine ⟨by rw [zN3,List.length_set];omega,?_⟩
    rw [zN2 (by rw [List.length_set];exact hkt)]
    have hin2:∀ y ∈ mat m.l i k,y=-1∨(0≤y∧y < 6):=fun y hy=>by
     have hy:y ∈ (m.l.set i (k:Int)).set k (i:Int):=hy
     rcases List.mem_or_eq_of_mem_set hy with hy|rfl
     ·rcases List.mem_or_eq_of_mem_set hy with hy|rfl
      ·exact hin y hy
      ·exact .inr (by omega)
     ·exact .inr (by omega)
    have hol2:o.l.length+6 ^ f1≤2000000000:=by
     have e1:=congrArg List.length hlo
     rw [List.length_map,List.length_append,List.length_map] at e1
     have e2:=zNH (f:=f1) (i:=i) (k:=k) hl
     have e3:(k - i+1) * 6 ^ f1≤6 * 6 ^ f1:=Nat.mul_le_mul_right _ (by omega)
     rw [Nat.add_mul,Nat.one_mul] at e3
     rw [Nat.pow_succ] at hol
     omega
    refine zCP 1 (mat m.l i k) rfl rfl (by rw [zND]) rfl fun q g1 eq1 R1 fq1 le1 kq1=>?_
    refine Evs ?_
    have le1:hk.le g1:=le1
    have fq1:∀ g,q.a=some ⟨g,0,none⟩→hk g=none:=fq1
    obtain ⟨Wa,la⟩:=hWk.grow le1
    have k1:q.Ok (zCO g1 o):=by
     refine RowAt.ok (by decide) (R1.keep (h':=zCO g1 o) fun g hg=>zDm fun a ha e=>?_) fun x hx=>?_
     ·have hb:=hWk.1.blk a ha
      rw [hb,← e] at ha
      exact hWk.1.mem ha (fq1 g hg)
     ·rw [eq1] at hx
      have:=hin2 x hx
      show I64 x
      unfold I64;omega
    first|refine zyi [0,0,1,0] rfl ?_|refine zyh [0,0,1,0] rfl ?_|(refine zc3 ?_;first|refine zyi [0,0,1,0] rfl ?_|refine zyh [0,0,1,0] rfl ?_)
    refine Evs ?_
    refine zlJ (ih f1 (by omega) q o g1 k1 Wa (by rw [eq1,zND];exact hl) (by rw [eq1];exact hin2) (by rw [eq1];have:=zNE hlt hq hkt;omega) hol2) rfl (fun k hk=>⟨Wa.1.mem hk,(hfr k hk).imp id (hWo k)⟩) ?_
    rintro v h4 kp ⟨s,rfl,hs,Ws,fs,les⟩
    refine Wk ?_
    refine ⟨(k+1,h4,s),[0],⟨by simp only;omega,hkt,Ws,fun g hg=>?_,Hp.le_trans hle (Hp.le_trans la les),?_⟩,by simp only;omega,?_⟩
    ·rcases fs g hg with e|e
     ·by_cases ho:out.a=some ⟨g,0,none⟩
      ·exact .inr ho
      ·left
       cases hh:h g with
       | none=>rfl
       | some ob =>
        have h5:zCO h out g=some ob:=by rw [zDm (fun a ha e'=>ho (by rw [ha,hW.1.blk a ha,e']))];exact hh
        have h6:=zDk g ob (la g ob (hle g ob h5))
        rw [e] at h6;cases h6
     ·exact hfr g e
    ·simp only
     rw [hs,hlo,eq1,zNC hik,if_pos (by rw [hgd];exact hn),List.append_assoc]
    refine Evs ?_
    exact Gi (zjA hkt (by omega))
   ·have hn:¬ m.l[k] < 0:=of_decide_eq_false hn
    refine Wk ?_
    refine ⟨(k+1,hk,o),[],⟨by simp only;omega,hkt,hWk,hfr,hle,?_⟩,by simp only;omega,?_⟩
    ·simp only
     rw [zNC hik,if_neg (by rw [hgd];exact hn),List.append_nil]
     exact hlo
    refine Evs ?_
    exact Gi (zjA hkt (by omega))
  ·have hkn:k=m.l.length:=by have:=of_decide_eq_false hd;omega
   subst hkn
   refine Wk ?_
   exact ⟨o,rfl,hlo,hWk,hfr,hle⟩
 ·have hil:i=m.l.length:=by have:=of_decide_eq_false hd;omega
  subst hil
  have hfx:=zNx fun j hj=>hneg j hj hj
  rw [zNz hfx]
  refine zc6 ?_
  refine Evs ?_
  first|refine zyi [0,0,0,3,0] rfl ?_|refine zyh [0,0,0,3,0] rfl ?_|(refine zc3 ?_;first|refine zyi [0,0,0,3,0] rfl ?_|refine zyh [0,0,0,3,0] rfl ?_)
  refine Evs ?_
  refine zCQ (s:=out) rfl hW.1 (fun g hg=>.inr (hWo g hg)) ?_
  refine Evs ?_
  have hp6:0 < 6 ^ f:=Nat.pow_pos (by decide)
  refine ⟨rfl,by simp only [maxLen];omega,by omega,fun ad2 cap2 h2 P2=>?_⟩
  have P2':Pub (zCO h out) 35 (Enc.size (Sl Int)) (out.l ++ [m]).length ((out.l ++ [m]).flatMap Enc.enc) ad2 cap2 h2:=by
   rw [List.length_append,List.flatMap_append];exact P2
  obtain ⟨W2,hd2,fr2,kp2⟩:=hW.push hmd P2'
  refine Wk ?_
  exact ⟨Sl.mk ad2 cap2 (out.l ++ [m]),by simp only [Sl.val,List.length_append,List.length_singleton],by rw [List.map_append];rfl,W2,fr2,by rw [hd2];exact Hp.le_refl _⟩
set_option maxRecDepth 30000 in
theorem zN5 (x:DHarbour) (a:Sl DCall) (h:Hp) (hx:Enc.ok h x) (ha:a.Ok h):Ct jV 41 [x.v,a.val] h fun v h'=>∃ s:Sl Int,v=.tuple #[s.val,.int .i64 (zNP (Con.con x) (Con.con a)).2.1,.bool (zNP (Con.con x) (Con.con a)).2.2]∧Con.con s=(zNP (Con.con x) (Con.con a)).1∧s.Ok h'∧h.le h':=by
 rw [zAQ]
 have hla:=ha.max
 refine zdn (fun A W=>by simp) Tryz.func41 rfl rfl (by simp) fun W0=>?_
 repeat' first|refine Wa ?_|refine zhF (fun _=>zAR x a _ hx ha) ?_|(simp only [go_sem,jq,jj,jy,jv,jk,jx];try rfl)|refine Wb ?_|fail
 rw [zAQ]
 refine zc9 rfl (fun hc=>?_) (fun hc=>?_)
 ·rw [Bool.not_eq_true'] at hc
  have hF:zNP (Con.con x) a.l=([],0,false):=by rw [zNP,if_neg (by rw [hc];exact Bool.false_ne_true)]
  rw [hF]
  refine Wk ?_
  exact ⟨⟨none,0,[]⟩,rfl,rfl,znp⟩
 rw [Bool.not_eq_false'] at hc
 have h6:=zJy hc
 rw [zNP,if_pos hc]
 refine zc5 ?_
 refine Evs ?_
 refine Wk ?_
 refine zkr (zJv x a _ hx ha (by omega)) rfl ?_
 rintro v h1 le1 ⟨L,rfl,eL,okL,mL⟩
 have hlL:L.l.length=a.l.length:=by have:=congrArg List.length eL;rwa [List.length_map,zJx] at this
 refine Wk ?_
 refine zm1 (ι:=Nat) (fun i=>⟨[(2,true,.c (.p 0 0)),(4,true,.c (.v (.slice none 0 0))),(5,true,.c (.v (.int .i64 0))),(6,true,.c (.v (.bool false))),(7,true,.c (.v L.val)),(8,true,.c (.s 1)),(25,true,.c (.v (.int .i64 a.l.length))),(26,true,.c (.v (.int .i64 i)))],[(1,.row 3 1 (List.replicate i (-1:Int)).length ((List.replicate i (-1:Int)).flatMap Enc.enc)),(0,.box 58 [.v (.int .i64 x.forecast.tide.mean),.v x.forecast.tide.parts.val,.v x.forecast.surges.val,.v x.chart.points.val,.v x.chart.segments.val,.v x.fleet.val,.v (.int .i64 x.regime.gap),.v (.bool x.regime.noMeet),.v (.int .i64 x.crew.tugs),.v (.int .i64 x.crew.pilots),.v (.int .i64 x.crew.rest),.v x.crew.moves.val])],h1,2⟩) (fun i=>i≤a.l.length) (fun i=>a.l.length - i) 0 (Nat.zero_le _) [0,1] ?_ ?_
 ·refine Evs ?_
  exact Gk
 intro k hk
 refine Wk ?_
 refine zc9 rfl (fun hd=>?_) (fun hd=>?_)
 ·have hlt:=zjH hd
  have hrl:(List.replicate k (-1:Int)).length=k:=List.length_replicate
  refine Wk ?_
  refine ⟨by simp only [maxLen];omega,by omega,?_⟩
  refine Wk ?_
  refine ⟨k+1,[0,3],hlt,by omega,?_⟩
  refine Evs ?_
  refine ⟨zjB (zjA hlt (by omega)),?_,?_⟩
  ·rw [List.replicate_succ',List.length_append,List.flatMap_append];rfl
  exact Gk
 ·have hge:=zjI hd
  obtain rfl:k=a.l.length:=by omega
  refine zc6 ?_
  refine Evs ?_
  refine zCP 1 (List.replicate a.l.length (-1:Int)) rfl rfl rfl rfl fun mt h2 e1 R1 f1 l1 k1=>?_
  refine Evs ?_
  have l1:h1.le h2:=l1
  refine zie rfl ?_
  refine Evs ?_
  refine zCP 2 ([]:List Int) rfl rfl rfl rfl fun b0 h3 e0 R0 f0 l0 k0=>?_
  refine Evs ?_
  have l0:h2.le h3:=l0
  refine zie rfl ?_
  refine Evs ?_
  refine zie rfl ?_
  refine Evs ?_
  have mt3:mt.Ok h3:=by
   refine RowAt.ok (by decide) (zKv R1 l0) fun y hy=>?_
   rw [e1] at hy
   have:=zNV y hy
   show I64 y
   unfold I64;omega
  have b3:b0.Ok h3:=R0.ok (by decide) fun y hy=>by rw [e0] at hy;cases hy
  have C:=zN4 a.l.length mt ⟨none,0,[]⟩ h3 mt3 ⟨⟨Nat.le_refl _,Nat.zero_le _,.inl ⟨rfl,rfl,rfl⟩⟩,fun y hy=>(by cases hy)⟩ (by rw [e1,List.length_replicate];exact h6) (by rw [e1];exact zNV) (by rw [e1];exact zNO) (by
   have:6 ^ a.l.length≤6 ^ 6:=Nat.pow_le_pow_right (by decide) h6
   show 0+6 ^ a.l.length≤_
   omega)
  rw [e1] at C
  first|refine zyi [0,1,0,0] rfl ?_|refine zyh [0,1,0,0] rfl ?_|(refine zc3 ?_;first|refine zyi [0,1,0,0] rfl ?_|refine zyh [0,1,0,0] rfl ?_)
  refine Evs ?_
  refine zlJ C rfl (fun k hk=>(by cases hk)) ?_
  rintro v h4 kp ⟨s,rfl,hs,Ws,fs,les⟩
  have le34:h3.le h4:=Hp.le_trans les zDk
  have le14:h1.le h4:=Hp.le_trans l1 (Hp.le_trans l0 le34)
  have oks:s.Ok h4:=Ws.ok (by decide)
  have hsm:=oks.max
  have hx4:=Enc.mono (Hp.le_trans le1 le14) hx
  have okL4:=okL.mono le14
  obtain ⟨hgok,hcost⟩:=zNt eL
  have hs:s.l.map (·.l)=alls a.l.length (List.replicate a.l.length (-1)):=hs
  rw [← hs]
  have hmem:∀ i (hi:i < s.l.length),zJt a.l.length s.l[i].l:=fun i hi=>by
   refine zNM (f:=a.l.length) zNN zNO _ ?_
   rw [← hs]
   exact List.mem_map.2 ⟨_,List.getElem_mem hi,rfl⟩
  refine Wk ?_
  refine zde (ι:=Nat × Sl Int × Int × Bool) (fun i=>⟨[(2,true,.c (.p 0 0)),(4,true,.c (.v (.slice none 0 0))),(5,true,.c (.v (.int .i64 0))),(6,true,.c (.v (.bool false))),(7,true,.c (.v L.val)),(9,true,.c (.v i.2.1.val)),(10,true,.c (.v (.int .i64 i.2.2.1))),(11,true,.c (.v (.bool i.2.2.2))),(34,true,.c (.v s.val)),(35,true,.c (.v (.int .i64 s.l.length))),(36,true,.c (.v (.int .i64 i.1)))],[(0,.box 58 [.v (.int .i64 x.forecast.tide.mean),.v x.forecast.tide.parts.val,.v x.forecast.surges.val,.v x.chart.points.val,.v x.chart.segments.val,.v x.fleet.val,.v (.int .i64 x.regime.gap),.v (.bool x.regime.noMeet),.v (.int .i64 x.crew.tugs),.v (.int .i64 x.crew.pilots),.v (.int .i64 x.crew.rest),.v x.crew.moves.val])],h4,3⟩)
   (fun i=>i.1≤s.l.length∧i.2.1.Ok h4∧BM (((s.l.map (·.l)).take i.1).foldl (bmS (zNn (Con.con x) a.l)) none) i.2.1.l i.2.2.1 i.2.2.2) (fun i=>s.l.length - i.1) (0,b0,0,false) ⟨Nat.zero_le _,b3.mono le34,⟨rfl,e0,rfl⟩⟩ ?_ ?_
  ·refine Evs ?_
   exact Gk
  rintro ⟨i,be,most,fo⟩ ⟨hi,okb,hB⟩
  simp only at hi okb hB
  refine Wk ?_
  refine zc9 rfl (fun hd=>?_) (fun hd=>?_)
  ·have hlt:=zjH hd
   have hM:=hmem i hlt
   have okm:s.l[i].Ok h4:=oks.el hlt
   have htk:(s.l.map (·.l)).take (i+1)=(s.l.map (·.l)).take i ++ [s.l[i].l]:=by rw [List.take_succ_eq_append_getElem (by rw [List.length_map];exact hlt),List.getElem_map]
   have hBo:zNn (Con.con x) a.l s.l[i].l=oIB (zNm (Con.con x.chart) x.regime (L.l.map fun s=>s.l.map (Con.con (α:=DOption))) s.l[i].l s.l[i].l.length):=by
    rw [eL,zNn,if_pos (by rw [hc,zNh,decide_eq_true hM];rfl)]
    rfl
   have hbo:=zNs x L s.l[i] h4 hx4 okL4 okm (by rw [hM.1,hlL];exact Nat.le_refl _) (fun j hj=>by have:=hM.2.1 j hj;rw [hM.1] at this;rw [hlL];exact this.2) hgok (fun l hl y hy=>(hcost l hl y hy).1)
   rw [← hBo] at hbo
   obtain ⟨⟨b,ok⟩,hb⟩:∃ B,zNn (Con.con x) a.l s.l[i].l=B:=⟨_,rfl⟩
   rw [hb] at hbo
   repeat' first|refine Wa ?_|(simp only [go_sem,jq,jj,jy,jv,jk,jx,zkQ oks hlt,oks.some hlt,hlt,jW,jY,implies_true,true_and,and_true,and_self];try rfl)|refine zc3 ?_
   refine zhF (fun _=>hbo) ?_
   repeat' first|refine Wa ?_|(simp only [go_sem,jq,jj,jy,jv,jk,jx,implies_true,true_and,and_true,and_self];try rfl)|refine zc3 ?_
   refine ⟨fun p q=>⟨p,q⟩,fun p q=>⟨p,q⟩,fun p q=>⟨p,q⟩,?_⟩
   refine zc9 rfl (fun hq=>?_) (fun hq=>?_)
   ·have hq':ok=true∧(fo=false∨most < b):=by
     simp only [jJ,jQ,Bool.not_eq_true'] at hq
     exact ⟨hq.1,hq.2.imp id of_decide_eq_true⟩
    obtain ⟨rfl,hq2⟩:=hq'
    refine Wk ?_
    refine ⟨(i+1,s.l[i],b,true),⟨hlt,okm,?_⟩,by simp only;omega,?_⟩
    ·simp only
     rw [htk,List.foldl_append,List.foldl_cons,List.foldl_nil]
     exact zNR hB hb hq2
    refine Evs ?_
    exact Gi (zjA hlt (by omega))
   ·have hq':ok=true→fo=true∧¬ most < b:=by
     intro e
     subst e
     simp only [Bool.true_and,jp,Bool.not_eq_false'] at hq
     exact ⟨hq.1,of_decide_eq_false hq.2⟩
    refine Wk ?_
    refine ⟨(i+1,be,most,fo),⟨hlt,okb,?_⟩,by simp only;omega,?_⟩
    ·simp only
     rw [htk,List.foldl_append,List.foldl_cons,List.foldl_nil]
     exact zNS hB fun e=>by rw [hb] at e ⊢;exact hq' e
    refine Evs ?_
    exact Gi (zjA hlt (by omega))
  ·have hge:=zjI hd
   rw [List.take_of_length_le (by rw [List.length_map];exact hge)] at hB
   rw [zNQ hB]
   refine Wk ?_
   refine zc9 rfl (fun hq=>?_) (fun hq=>?_)
   ·rw [Bool.not_eq_true'] at hq
    subst hq
    have:be.l=[]∧most=0:=by
     cases hz:(s.l.map (·.l)).foldl (bmS (zNn (Con.con x) a.l)) none with
     | none=>rw [hz] at hB;exact hB.2
     | some z=>rw [hz] at hB;cases hB.1
    rw [this.1,this.2]
    refine Wk ?_
    exact ⟨⟨none,0,[]⟩,rfl,rfl,znp,Hp.le_trans le1 le14⟩
   ·rw [Bool.not_eq_false'] at hq
    subst hq
    refine Wk ?_
    exact ⟨be,rfl,con_ints,okb,Hp.le_trans le1 le14⟩
noncomputable def zN6 (x:PHarbour) (a:List DCall):Int:=if ((zKf x a).2.2 && (zNP x a).2.2)=true then IntKind.i64.wrap ((zKf x a).2.1 - (zNP x a).2.1) else -1
set_option maxRecDepth 30000 in
theorem zN7 (x:DHarbour) (a:Sl DCall) (h:Hp) (hx:Enc.ok h x) (ha:a.Ok h):Ct jV 32 [x.v,a.val] h fun v h'=>v=.int .i64 (zN6 (Con.con x) (Con.con a))∧h'=h:=by
 obtain ⟨⟨p1,p2,p3⟩,hp⟩:∃ B,zKf (Con.con x) (Con.con a)=B:=⟨_,rfl⟩
 obtain ⟨⟨b1,b2,b3⟩,hb⟩:∃ B,zNP (Con.con x) (Con.con a)=B:=⟨_,rfl⟩
 have c1:=zK3 x a h hx ha
 have c2:=fun h1 (le:h.le h1)=>zN1 x a h1 (Enc.mono le hx) (ha.mono le)
 simp only [hp] at c1
 simp only [hb] at c2
 refine Ct.forget ?_
 refine zdn (fun A W=>by simp) Tryz.func32 rfl rfl (by simp) fun W0=>?_
 refine Wk ?_
 refine zkr c1 rfl ?_
 rintro v h1 le1 ⟨s,rfl,es,oks,-⟩
 refine Wk ?_
 refine zkr (c2 h1 le1) rfl ?_
 rintro v h2 le2 ⟨t,rfl,et,okt,-⟩
 refine Wk ?_
 refine zc9 rfl (fun hq=>?_) (fun hq=>?_)
 ·have hq':¬ ((p3 && b3)=true):=by
   simp only [jQ,Bool.not_eq_true'] at hq
   rw [jJ]
   rintro ⟨e1,e2⟩
   rcases hq with hq|hq
   ·rw [e1] at hq;cases hq
   ·rw [e2] at hq;cases hq
  rw [show zN6 (Con.con x) (Con.con a)=-1 from by rw [zN6,hp,hb];exact if_neg hq']
  exact Wk0
 ·have hq':(p3 && b3)=true:=by
   simp only [jp,Bool.not_eq_false'] at hq
   rw [hq.1,hq.2];rfl
  rw [show zN6 (Con.con x) (Con.con a)=IntKind.i64.wrap (p2 - b2) from by rw [zN6,hp,hb];exact if_pos hq']
  exact Wk0
set_option maxRecDepth 30000 in
theorem zN8 (x:DHarbour) (a:Sl DCall) (h:Hp) (hx:Enc.ok h x) (ha:a.Ok h):Ct jV 31 [x.v,a.val] h fun v h'=>v=.int .i64 (zN6 (Con.con x) (Con.con a))∧h'=h:=by
 obtain ⟨⟨p1,p2,p3⟩,hp⟩:∃ B,zKf (Con.con x) (Con.con a)=B:=⟨_,rfl⟩
 obtain ⟨⟨b1,b2,b3⟩,hb⟩:∃ B,zNP (Con.con x) (Con.con a)=B:=⟨_,rfl⟩
 have c1:=zNw x a h hx ha
 have c2:=fun h1 (le:h.le h1)=>zN5 x a h1 (Enc.mono le hx) (ha.mono le)
 simp only [hp] at c1
 simp only [hb] at c2
 refine Ct.forget ?_
 refine zdn (fun A W=>by simp) Tryz.func31 rfl rfl (by simp) fun W0=>?_
 refine Wk ?_
 refine zkr c1 rfl ?_
 rintro v h1 le1 ⟨s,rfl,es,oks,-⟩
 refine Wk ?_
 refine zkr (c2 h1 le1) rfl ?_
 rintro v h2 le2 ⟨t,rfl,et,okt,-⟩
 refine Wk ?_
 refine zc9 rfl (fun hq=>?_) (fun hq=>?_)
 ·have hq':¬ ((p3 && b3)=true):=by
   simp only [jQ,Bool.not_eq_true'] at hq
   rw [jJ]
   rintro ⟨e1,e2⟩
   rcases hq with hq|hq
   ·rw [e1] at hq;cases hq
   ·rw [e2] at hq;cases hq
  rw [show zN6 (Con.con x) (Con.con a)=-1 from by rw [zN6,hp,hb];exact if_neg hq']
  exact Wk0
 ·have hq':(p3 && b3)=true:=by
   simp only [jp,Bool.not_eq_false'] at hq
   rw [hq.1,hq.2];rfl
  rw [show zN6 (Con.con x) (Con.con a)=IntKind.i64.wrap (p2 - b2) from by rw [zN6,hp,hb];exact if_pos hq']
  exact Wk0
theorem zN9 (w:List Int):Sz.sz w=w.length:=by
 rw [znw]
 have:(w.map Sz.sz).sum=0:=by
  induction w with
  | nil=>rfl
  | cons x w ih=>rw [List.map_cons,List.sum_cons,ih];rfl
 omega
theorem zOa (x:PHarbour) (a:List DCall):Sz.sz (zNP x a).1≤1048576:=by
 rw [zNP]
 split
 ·rename_i hc
  have h6:=zJy hc
  cases hs:(alls a.length (List.replicate a.length (-1))).foldl (bmS (zNn x a)) none with
  | none=>exact Nat.zero_le _
  | some s =>
   show Sz.sz s.1≤_
   rw [zN9]
   rcases zNU hs with h|h
   ·have:=(zNM zNN zNO _ h).1
    omega
   ·cases h
 ·exact Nat.zero_le _
open Go Go.SL Go.RowKit Go.ChangeShapes Go.WideShapes Go.ChangeAt Go.Deep
theorem Tryz.own:ownKnob Tryz.prog.godebug=none:=by kernel_rfl
theorem Tryz.laidOut:laidOutB jV=true:=by kernel_rfl
theorem zMy:Tryz.prog.cellsOf 3=1:=by kernel_rfl
theorem zMz:Tryz.prog.cellsOf 4=1:=by kernel_rfl
theorem zMA:Tryz.prog.cellsOf 9=1:=by kernel_rfl
theorem zMB:Opens Int jV 3:=zkv Tryz.underlying3
set_option maxRecDepth 100000 in
theorem zMC:Opens DCall jV 107:=by
 intro H enc w base spare held fuel cs x h
 obtain ⟨hl,hf⟩:=zkx Tryz.underlying107 h
 have hl:cs.length=5:=hl.trans (by kernel_rfl)
 match cs,hl with
 | [c0,c1,c2,c3,c4],_ =>
  obtain ⟨a0,e0,o0⟩:=zlC Tryz.underlying3 hf 0 0 ⟨_,rfl,rfl,rfl⟩ zMy
  have e0:[c0]=[.int .i64 a0]:=e0
  obtain ⟨a1,e1,o1⟩:=zlC Tryz.underlying3 hf 1 1 ⟨_,rfl,rfl,rfl⟩ zMy
  have e1:[c1]=[.int .i64 a1]:=e1
  obtain ⟨a2,e2,o2⟩:=zlC Tryz.underlying3 hf 2 2 ⟨_,rfl,rfl,rfl⟩ zMy
  have e2:[c2]=[.int .i64 a2]:=e2
  obtain ⟨a3,e3,o3⟩:=zlC Tryz.underlying3 hf 3 3 ⟨_,rfl,rfl,rfl⟩ zMy
  have e3:[c3]=[.int .i64 a3]:=e3
  obtain ⟨a4,e4,o4⟩:=zlC Tryz.underlying3 hf 4 4 ⟨_,rfl,rfl,rfl⟩ zMy
  have e4:[c4]=[.int .i64 a4]:=e4
  have ee:[c0] ++ [c1] ++ [c2] ++ [c3] ++ [c4]=[.int .i64 a0] ++ [.int .i64 a1] ++ [.int .i64 a2] ++ [.int .i64 a3] ++ [.int .i64 a4]:=by rw [e0,e1,e2,e3,e4]
  exact ⟨⟨a0,a1,a2,a3,a4⟩,ee,o0,o1,o2,o3,o4⟩
theorem zMD:Opens (Sl DCall) jV 40:=zkw Tryz.underlying40 (by kernel_rfl) zMC
theorem zME:Tryz.prog.cellsOf 35=1:=by kernel_rfl
theorem opens_IntS:Opens (Sl Int) jV 35:=zkw Tryz.underlying35 (by kernel_rfl) zMB
theorem zMF:Tryz.prog.cellsOf 37=4:=by kernel_rfl
set_option maxRecDepth 100000 in
theorem opens_Crew:Opens DCrew jV 37:=by
 intro H enc w base spare held fuel cs x h
 obtain ⟨hl,hf⟩:=zkx Tryz.underlying37 h
 have hl:cs.length=4:=hl.trans (by kernel_rfl)
 match cs,hl with
 | [c0,c1,c2,c3],_ =>
  obtain ⟨a0,e0,o0⟩:=zlC Tryz.underlying3 hf 0 0 ⟨_,rfl,rfl,rfl⟩ zMy
  have e0:[c0]=[.int .i64 a0]:=e0
  obtain ⟨a1,e1,o1⟩:=zlC Tryz.underlying3 hf 1 1 ⟨_,rfl,rfl,rfl⟩ zMy
  have e1:[c1]=[.int .i64 a1]:=e1
  obtain ⟨a2,e2,o2⟩:=zlC Tryz.underlying3 hf 2 2 ⟨_,rfl,rfl,rfl⟩ zMy
  have e2:[c2]=[.int .i64 a2]:=e2
  obtain ⟨a3,e3,o3⟩:=opens_IntS.field hf 3 3 1 ⟨_,rfl,rfl,rfl⟩ zME
  have e3:[c3]=Enc.enc a3:=e3
  have ee:[c0] ++ [c1] ++ [c2] ++ [c3]=[.int .i64 a0] ++ [.int .i64 a1] ++ [.int .i64 a2] ++ Enc.enc a3:=by rw [e0,e1,e2,e3]
  exact ⟨⟨a0,a1,a2,a3⟩,ee,o0,o1,o2,o3⟩
set_option maxRecDepth 100000 in
theorem zMG:Opens DPart jV 277:=by
 intro H enc w base spare held fuel cs x h
 obtain ⟨hl,hf⟩:=zkx Tryz.underlying277 h
 have hl:cs.length=3:=hl.trans (by kernel_rfl)
 match cs,hl with
 | [c0,c1,c2],_ =>
  obtain ⟨a0,e0,o0⟩:=zlC Tryz.underlying3 hf 0 0 ⟨_,rfl,rfl,rfl⟩ zMy
  have e0:[c0]=[.int .i64 a0]:=e0
  obtain ⟨a1,e1,o1⟩:=zlC Tryz.underlying3 hf 1 1 ⟨_,rfl,rfl,rfl⟩ zMy
  have e1:[c1]=[.int .i64 a1]:=e1
  obtain ⟨a2,e2,o2⟩:=zlC Tryz.underlying3 hf 2 2 ⟨_,rfl,rfl,rfl⟩ zMy
  have e2:[c2]=[.int .i64 a2]:=e2
  have ee:[c0] ++ [c1] ++ [c2]=[.int .i64 a0] ++ [.int .i64 a1] ++ [.int .i64 a2]:=by rw [e0,e1,e2]
  exact ⟨⟨a0,a1,a2⟩,ee,o0,o1,o2⟩
theorem zMH:Tryz.prog.cellsOf 22=1:=by kernel_rfl
theorem opens_PartS:Opens (Sl DPart) jV 22:=zkw Tryz.underlying22 (by kernel_rfl) zMG
theorem zMI:Tryz.prog.cellsOf 24=2:=by kernel_rfl
set_option maxRecDepth 100000 in
theorem opens_Tide:Opens DTide jV 24:=by
 intro H enc w base spare held fuel cs x h
 obtain ⟨hl,hf⟩:=zkx Tryz.underlying24 h
 have hl:cs.length=2:=hl.trans (by kernel_rfl)
 match cs,hl with
 | [c0,c1],_ =>
  obtain ⟨a0,e0,o0⟩:=zlC Tryz.underlying3 hf 0 0 ⟨_,rfl,rfl,rfl⟩ zMy
  have e0:[c0]=[.int .i64 a0]:=e0
  obtain ⟨a1,e1,o1⟩:=opens_PartS.field hf 1 1 1 ⟨_,rfl,rfl,rfl⟩ zMH
  have e1:[c1]=Enc.enc a1:=e1
  have ee:[c0] ++ [c1]=[.int .i64 a0] ++ Enc.enc a1:=by rw [e0,e1]
  exact ⟨⟨a0,a1⟩,ee,o0,o1⟩
set_option maxRecDepth 100000 in
theorem zMJ:Opens DSurge jV 227:=by
 intro H enc w base spare held fuel cs x h
 obtain ⟨hl,hf⟩:=zkx Tryz.underlying227 h
 have hl:cs.length=3:=hl.trans (by kernel_rfl)
 match cs,hl with
 | [c0,c1,c2],_ =>
  obtain ⟨a0,e0,o0⟩:=zlC Tryz.underlying3 hf 0 0 ⟨_,rfl,rfl,rfl⟩ zMy
  have e0:[c0]=[.int .i64 a0]:=e0
  obtain ⟨a1,e1,o1⟩:=zlC Tryz.underlying3 hf 1 1 ⟨_,rfl,rfl,rfl⟩ zMy
  have e1:[c1]=[.int .i64 a1]:=e1
  obtain ⟨a2,e2,o2⟩:=zlC Tryz.underlying3 hf 2 2 ⟨_,rfl,rfl,rfl⟩ zMy
  have e2:[c2]=[.int .i64 a2]:=e2
  have ee:[c0] ++ [c1] ++ [c2]=[.int .i64 a0] ++ [.int .i64 a1] ++ [.int .i64 a2]:=by rw [e0,e1,e2]
  exact ⟨⟨a0,a1,a2⟩,ee,o0,o1,o2⟩
theorem zMK:Tryz.prog.cellsOf 25=1:=by kernel_rfl
theorem opens_SurgeS:Opens (Sl DSurge) jV 25:=zkw Tryz.underlying25 (by kernel_rfl) zMJ
theorem zML:Tryz.prog.cellsOf 27=3:=by kernel_rfl
set_option maxRecDepth 100000 in
theorem opens_Forecast:Opens DForecast jV 27:=by
 intro H enc w base spare held fuel cs x h
 obtain ⟨hl,hf⟩:=zkx Tryz.underlying27 h
 have hl:cs.length=3:=hl.trans (by kernel_rfl)
 match cs,hl with
 | [c0,c1,c2],_ =>
  obtain ⟨a0,e0,o0⟩:=opens_Tide.field hf 0 0 2 ⟨_,rfl,rfl,rfl⟩ zMI
  have e0:[c0,c1]=Enc.enc a0:=e0
  obtain ⟨a1,e1,o1⟩:=opens_SurgeS.field hf 1 2 1 ⟨_,rfl,rfl,rfl⟩ zMK
  have e1:[c2]=Enc.enc a1:=e1
  have ee:[c0,c1] ++ [c2]=Enc.enc a0 ++ Enc.enc a1:=by rw [e0,e1]
  exact ⟨⟨a0,a1⟩,ee,o0,o1⟩
set_option maxRecDepth 100000 in
theorem zMM:Opens DPoint jV 216:=by
 intro H enc w base spare held fuel cs x h
 obtain ⟨hl,hf⟩:=zkx Tryz.underlying216 h
 have hl:cs.length=2:=hl.trans (by kernel_rfl)
 match cs,hl with
 | [c0,c1],_ =>
  obtain ⟨a0,e0,o0⟩:=zlE Tryz.underlying9 hf 0 0 ⟨_,rfl,rfl,rfl⟩ zMA
  have e0:[c0]=[.string a0]:=e0
  obtain ⟨a1,e1⟩:=zlD Tryz.underlying4 hf 1 1 ⟨_,rfl,rfl,rfl⟩ zMz
  have e1:[c1]=[.bool a1]:=e1
  have ee:[c0] ++ [c1]=[.string a0] ++ [.bool a1]:=by rw [e0,e1]
  exact ⟨⟨a0,a1⟩,ee,o0⟩
theorem zMN:Tryz.prog.cellsOf 28=1:=by kernel_rfl
theorem opens_PointS:Opens (Sl DPoint) jV 28:=zkw Tryz.underlying28 (by kernel_rfl) zMM
set_option maxRecDepth 100000 in
theorem zMO:Opens DSegment jV 233:=by
 intro H enc w base spare held fuel cs x h
 obtain ⟨hl,hf⟩:=zkx Tryz.underlying233 h
 have hl:cs.length=5:=hl.trans (by kernel_rfl)
 match cs,hl with
 | [c0,c1,c2,c3,c4],_ =>
  obtain ⟨a0,e0,o0⟩:=zlC Tryz.underlying3 hf 0 0 ⟨_,rfl,rfl,rfl⟩ zMy
  have e0:[c0]=[.int .i64 a0]:=e0
  obtain ⟨a1,e1,o1⟩:=zlC Tryz.underlying3 hf 1 1 ⟨_,rfl,rfl,rfl⟩ zMy
  have e1:[c1]=[.int .i64 a1]:=e1
  obtain ⟨a2,e2,o2⟩:=zlC Tryz.underlying3 hf 2 2 ⟨_,rfl,rfl,rfl⟩ zMy
  have e2:[c2]=[.int .i64 a2]:=e2
  obtain ⟨a3,e3,o3⟩:=zlC Tryz.underlying3 hf 3 3 ⟨_,rfl,rfl,rfl⟩ zMy
  have e3:[c3]=[.int .i64 a3]:=e3
  obtain ⟨a4,e4⟩:=zlD Tryz.underlying4 hf 4 4 ⟨_,rfl,rfl,rfl⟩ zMz
  have e4:[c4]=[.bool a4]:=e4
  have ee:[c0] ++ [c1] ++ [c2] ++ [c3] ++ [c4]=[.int .i64 a0] ++ [.int .i64 a1] ++ [.int .i64 a2] ++ [.int .i64 a3] ++ [.bool a4]:=by rw [e0,e1,e2,e3,e4]
  exact ⟨⟨a0,a1,a2,a3,a4⟩,ee,o0,o1,o2,o3⟩
theorem zMP:Tryz.prog.cellsOf 29=1:=by kernel_rfl
theorem opens_SegmentS:Opens (Sl DSegment) jV 29:=zkw Tryz.underlying29 (by kernel_rfl) zMO
theorem zMQ:Tryz.prog.cellsOf 31=2:=by kernel_rfl
set_option maxRecDepth 100000 in
theorem opens_Chart:Opens DChart jV 31:=by
 intro H enc w base spare held fuel cs x h
 obtain ⟨hl,hf⟩:=zkx Tryz.underlying31 h
 have hl:cs.length=2:=hl.trans (by kernel_rfl)
 match cs,hl with
 | [c0,c1],_ =>
  obtain ⟨a0,e0,o0⟩:=opens_PointS.field hf 0 0 1 ⟨_,rfl,rfl,rfl⟩ zMN
  have e0:[c0]=Enc.enc a0:=e0
  obtain ⟨a1,e1,o1⟩:=opens_SegmentS.field hf 1 1 1 ⟨_,rfl,rfl,rfl⟩ zMP
  have e1:[c1]=Enc.enc a1:=e1
  have ee:[c0] ++ [c1]=Enc.enc a0 ++ Enc.enc a1:=by rw [e0,e1]
  exact ⟨⟨a0,a1⟩,ee,o0,o1⟩
set_option maxRecDepth 100000 in
theorem zMR:Opens DShip jV 162:=by
 intro H enc w base spare held fuel cs x h
 obtain ⟨hl,hf⟩:=zkx Tryz.underlying162 h
 have hl:cs.length=6:=hl.trans (by kernel_rfl)
 match cs,hl with
 | [c0,c1,c2,c3,c4,c5],_ =>
  obtain ⟨a0,e0,o0⟩:=zlE Tryz.underlying9 hf 0 0 ⟨_,rfl,rfl,rfl⟩ zMA
  have e0:[c0]=[.string a0]:=e0
  obtain ⟨a1,e1,o1⟩:=zlC Tryz.underlying3 hf 1 1 ⟨_,rfl,rfl,rfl⟩ zMy
  have e1:[c1]=[.int .i64 a1]:=e1
  obtain ⟨a2,e2,o2⟩:=zlC Tryz.underlying3 hf 2 2 ⟨_,rfl,rfl,rfl⟩ zMy
  have e2:[c2]=[.int .i64 a2]:=e2
  obtain ⟨a3,e3,o3⟩:=zlC Tryz.underlying3 hf 3 3 ⟨_,rfl,rfl,rfl⟩ zMy
  have e3:[c3]=[.int .i64 a3]:=e3
  obtain ⟨a4,e4,o4⟩:=zlC Tryz.underlying3 hf 4 4 ⟨_,rfl,rfl,rfl⟩ zMy
  have e4:[c4]=[.int .i64 a4]:=e4
  obtain ⟨a5,e5⟩:=zlD Tryz.underlying4 hf 5 5 ⟨_,rfl,rfl,rfl⟩ zMz
  have e5:[c5]=[.bool a5]:=e5
  have ee:[c0] ++ [c1] ++ [c2] ++ [c3] ++ [c4] ++ [c5]=[.string a0] ++ [.int .i64 a1] ++ [.int .i64 a2] ++ [.int .i64 a3] ++ [.int .i64 a4] ++ [.bool a5]:=by rw [e0,e1,e2,e3,e4,e5]
  exact ⟨⟨a0,a1,a2,a3,a4,a5⟩,ee,o0,o1,o2,o3,o4⟩
theorem zMS:Tryz.prog.cellsOf 32=1:=by kernel_rfl
theorem opens_ShipS:Opens (Sl DShip) jV 32:=zkw Tryz.underlying32 (by kernel_rfl) zMR
theorem zMT:Tryz.prog.cellsOf 34=2:=by kernel_rfl
set_option maxRecDepth 100000 in
theorem opens_Regime:Opens DRegime jV 34:=by
 intro H enc w base spare held fuel cs x h
 obtain ⟨hl,hf⟩:=zkx Tryz.underlying34 h
 have hl:cs.length=2:=hl.trans (by kernel_rfl)
 match cs,hl with
 | [c0,c1],_ =>
  obtain ⟨a0,e0,o0⟩:=zlC Tryz.underlying3 hf 0 0 ⟨_,rfl,rfl,rfl⟩ zMy
  have e0:[c0]=[.int .i64 a0]:=e0
  obtain ⟨a1,e1⟩:=zlD Tryz.underlying4 hf 1 1 ⟨_,rfl,rfl,rfl⟩ zMz
  have e1:[c1]=[.bool a1]:=e1
  have ee:[c0] ++ [c1]=[.int .i64 a0] ++ [.bool a1]:=by rw [e0,e1]
  exact ⟨⟨a0,a1⟩,ee,o0⟩
set_option maxRecDepth 100000 in
theorem zMU:Opens DHarbour jV 39:=by
 intro H enc w base spare held fuel cs x h
 obtain ⟨hl,hf⟩:=zkx Tryz.underlying39 h
 have hl:cs.length=12:=hl.trans (by kernel_rfl)
 match cs,hl with
 | [c0,c1,c2,c3,c4,c5,c6,c7,c8,c9,c10,c11],_ =>
  obtain ⟨a0,e0,o0⟩:=opens_Forecast.field hf 0 0 3 ⟨_,rfl,rfl,rfl⟩ zML
  have e0:[c0,c1,c2]=Enc.enc a0:=e0
  obtain ⟨a1,e1,o1⟩:=opens_Chart.field hf 1 3 2 ⟨_,rfl,rfl,rfl⟩ zMQ
  have e1:[c3,c4]=Enc.enc a1:=e1
  obtain ⟨a2,e2,o2⟩:=opens_ShipS.field hf 2 5 1 ⟨_,rfl,rfl,rfl⟩ zMS
  have e2:[c5]=Enc.enc a2:=e2
  obtain ⟨a3,e3,o3⟩:=opens_Regime.field hf 3 6 2 ⟨_,rfl,rfl,rfl⟩ zMT
  have e3:[c6,c7]=Enc.enc a3:=e3
  obtain ⟨a4,e4,o4⟩:=opens_Crew.field hf 4 8 4 ⟨_,rfl,rfl,rfl⟩ zMF
  have e4:[c8,c9,c10,c11]=Enc.enc a4:=e4
  have ee:[c0,c1,c2] ++ [c3,c4] ++ [c5] ++ [c6,c7] ++ [c8,c9,c10,c11]=Enc.enc a0 ++ Enc.enc a1 ++ Enc.enc a2 ++ Enc.enc a3 ++ Enc.enc a4:=by rw [e0,e1,e2,e3,e4]
  exact ⟨⟨a0,a1,a2,a3,a4⟩,ee,o0,o1,o2,o3,o4⟩
end Go.Proofs.YtdejfjdbcggilaaGreat
