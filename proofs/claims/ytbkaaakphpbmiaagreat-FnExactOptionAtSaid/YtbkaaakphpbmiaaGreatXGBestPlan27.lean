/- What functions of the given program compute, as contracts. -/
import Derived.Test.YtbkaaakphpbmiaaGreatXGBestPlan25
import Derived.Test.YtbkaaakphpbmiaaGreatXGBestPlan26
set_option linter.unusedVariables false
set_option linter.unusedSimpArgs false
set_option maxRecDepth 4000
open Nat renaming reduceAdd → jq, reduceMul → jj, reduceBEq → jy, reduceLeDiff → jv, reduceLT → jk, reduceEqDiff → jx
open Bool renaming or_eq_false_iff → jp, or_eq_true → jQ, and_eq_true → jJ
open Int renaming toNat_natCast → jW, natCast_nonneg → jY
open Go.Proofs.Tryz renaming prog → jV
namespace Go.Proofs.YtbkaaakphpbmiaaGreat
open Go Go.SL
set_option maxHeartbeats 1000000
def LL (L:Sl (Sl DOption)):List (List POption):=L.l.map fun l=>l.l.map (Con.con (α:=DOption))
theorem zMo {L:Sl (Sl DOption)} {i:Nat} (hi:i < L.l.length):(LL L).drop i=L.l[i].l.map (Con.con (α:=DOption)) :: (LL L).drop (i+1):=by
 have h:i < (LL L).length:=by rw [LL,List.length_map];exact hi
 rw [List.drop_eq_getElem_cons h]
 simp [LL]
def zMp (x:PHarbour) (w:List POption→Int) (L:List (List POption)) (l p:List POption) (ch:List Nat) (st:BSt) (k:Nat):BSt:=if zK7 x p (l.getD k zJX)=true then srW x w L (p ++ [l.getD k zJX]) (ch ++ [k]) st else st
set_option maxRecDepth 30000 in
theorem zMq (hb:Hp) (b:Nat) (x:DHarbour) (L:Sl (Sl DOption)) (wfn:Nat) (cs:List Value) (w:List POption→Int) (hR:zvl x.regime=true) (hL6:L.l.length≤6) (hLn:∀ l ∈ L.l,l.l.length≤90) (hLg:∀ l ∈ L.l,∀ y ∈ l.l,zBC (Con.con x.chart) x.fleet.l y.pas.l∧y.pas.l.length≤1000)
  (hw:∀ (s:Sl DOption) (h:Hp),s.Ok h→hb.le h→s.l.length≤6→Ct jV wfn ([s.val] ++ cs) h fun v h'=>v=.agg #[.int .i64 (w (s.l.map Con.con)),.int .i64 0]∧h'=h) :
  ∀ (f:Nat) (pn:List Nat) (p:Sl DOption) (ch be:Sl Int) (m0 m1:Int) (fo:Bool) (st:BSt) (h:Hp),PV hb h b x L (.func (.func wfn) #[] cs.toArray) p ch be m0 m1 fo→BS st be m0 m1 fo→p.l.length+f=L.l.length→ch.l=zs pn→pn.length=p.l.length→(∀ y ∈ p.l,zBC (Con.con x.chart) x.fleet.l y.pas.l∧y.pas.l.length≤1000)→(∀ y ∈ pn,y < 100) →
   Cw jV 213 [.pointer (some ⟨b,0,none⟩)] h (fun k=>hb k=none∧h k ≠ none) fun v h'=>∃ (p':Sl DOption) (ch' be':Sl Int) (m0' m1':Int) (fo':Bool),PV hb h' b x L (.func (.func wfn) #[] cs.toArray) p' ch' be' m0' m1' fo'∧p'.l=p.l∧ch'.l=ch.l∧BS (srW (Con.con x) w ((LL L).drop p.l.length) (p.l.map Con.con) pn st) be' m0' m1' fo':=by
 intro f
 induction f using Nat.strongRecOn with
 | _ f ih =>
 intro pn p ch be m0 m1 fo st h H hst hlen hch hpn hpg hpb
 obtain ⟨q0,q12,q13,q14,q15,q16,q17,q19⟩:=zLW H.bx
 have hpo:=H.pok
 have hLo:=H.oL.mono H.le
 have hLm:=hLo.max
 refine zlh (fun A W=>by simp) Tryz.func213 rfl rfl (by simp)  (fun k hk=>hk.2) fun W0 hW=>?_
 have own:∀ k,hb k=none→h k=none∨W0.own k:=fun k hk=>by
  cases hh:h k with
  | none=>exact .inl rfl
  | some o=>exact .inr (hW k ⟨hk,by rw [hh];simp⟩)
 refine zc3 ?_
 refine zoc (ι:=Unit) (fun _=>⟨[(0,true,.c (.v (.pointer (some ⟨b,0,none⟩)))),(2,true,.c (.p 0 0))],[(0,.box 188 [.v (.int .i64 (w (p.l.map Con.con))),.v (.int .i64 0)])],h,1⟩) (fun _=>True) ?_ ?_
 ·refine znv rfl ?_
  refine U_t [0,4,1,5,2,6,3,7] rfl ?_
  simp only [go_sem,jq,jj,jy,jv,jk,jx,q0,q12,q13,q14,q15,q16,q17,q19,true_or,true_and,and_true,implies_true]
  refine U_m 8 [9] ⟨?_,?_,trivial⟩
  ·refine U_b 8 0 [] rfl rfl ?_
   simp only [go_sem,jq,jj,jy,jv,jk,jx,q0,q12,q13,q14,q15,q16,q17,q19,true_or,true_and,and_true,implies_true]
   refine zhF (fun _=>hw p h hpo H.le (by omega)) ?_
   simp only [go_sem,jq,jj,jy,jv,jk,jx,q0,q12,q13,q14,q15,q16,q17,q19,true_or,true_and,and_true,implies_true]
   refine U_1 9 0 [] rfl rfl ?_
   simp only [go_sem,jq,jj,jy,jv,jk,jx,q0,q12,q13,q14,q15,q16,q17,q19,true_or,true_and,and_true,implies_true]
   refine U_1 10 0 [] rfl rfl ?_
   simp only [go_sem,jq,jj,jy,jv,jk,jx,q0,q12,q13,q14,q15,q16,q17,q19,true_or,true_and,and_true,implies_true]
   refine U_d ?_
   refine ⟨(),[0],?_⟩
   refine Evs ?_
   exact Gk
  ·refine U_b 9 0 [7,3,6,2,5,1] rfl rfl ?_
   simp only [go_sem,jq,jj,jy,jv,jk,jx,q0,q12,q13,q14,q15,q16,q17,q19,true_or,true_and,and_true,implies_true]
   refine U_1 8 0 [] rfl rfl ?_
   simp only [go_sem,jq,jj,jy,jv,jk,jx,q0,q12,q13,q14,q15,q16,q17,q19,true_or,true_and,and_true,implies_true]
   refine zhF (fun _=>hw p h hpo H.le (by omega)) ?_
   simp only [go_sem,jq,jj,jy,jv,jk,jx,q0,q12,q13,q14,q15,q16,q17,q19,true_or,true_and,and_true,implies_true]
   refine U_1 10 0 [] rfl rfl ?_
   simp only [go_sem,jq,jj,jy,jv,jk,jx,q0,q12,q13,q14,q15,q16,q17,q19,true_or,true_and,and_true,implies_true]
   refine U_d ?_
   refine ⟨(),[0],?_⟩
   refine Evs ?_
   exact Gk
 intro _ _
 refine Wk ?_
 refine znv rfl ?_
 refine U_t [0,1,2,3,4,5,6,7,8,9] rfl ?_
 simp only [go_sem,jq,jj,jy,jv,jk,jx,q0,q12,q13,q14,q15,q16,q17,q19,true_or,true_and,and_true,implies_true]
 refine U_1 10 0 [] rfl rfl ?_
 simp only [go_sem,jq,jj,jy,jv,jk,jx,q0,q12,q13,q14,q15,q16,q17,q19,true_or,true_and,and_true,implies_true]
 refine zhF (fun _=>zLZ _ _ _ _ _) ?_
 simp only [go_sem,jq,jj,jy,jv,jk,jx,q0,q12,q13,q14,q15,q16,q17,q19,true_or,true_and,and_true,implies_true]
 refine U_t [11,12] rfl ?_
 simp only [go_sem,jq,jj,jy,jv,jk,jx,q0,q12,q13,q14,q15,q16,q17,q19,true_or,true_and,and_true,implies_true]
 refine U_d ?_
 have hcut:=zLT (c:=w (p.l.map Con.con)) hst
 refine zc9 rfl (fun hq=>?_) (fun hq=>?_)
 ·rw [hcut] at hq
  refine Wk ?_
  refine ⟨p,ch,be,m0,m1,fo,H,rfl,rfl,?_⟩
  have hs:srW (Con.con x) w ((LL L).drop p.l.length) (p.l.map Con.con) pn st=st:=by
   cases (LL L).drop p.l.length with
   | nil=>rw [srW,if_pos hq]
   | cons l M=>rw [srW,if_pos hq]
  rw [hs]
  exact hst
 rw [hcut] at hq
 repeat' first|refine Wa ?_|(simp only [go_sem,jq,jj,jy,jv,jk,jx,q0,q12,q13,q14,q15,q16,q17,q19,true_or,true_and,and_true,implies_true];try rfl)|refine Wb ?_|fail
 refine zc9 rfl (fun hx=>?_) (fun hx=>?_)
 ·have hx:p.l.length=L.l.length:=by have:=eq_of_beq hx;omega
  have hs:srW (Con.con x) w ((LL L).drop p.l.length) (p.l.map Con.con) pn st=some (pn,w (p.l.map Con.con)):=by
   rw [List.drop_of_length_le (by rw [LL,List.length_map];omega),srW,if_neg (by rw [hq];exact Bool.false_ne_true)]
  rw [hs]
  refine Wk ?_
  refine znv rfl ?_
  refine U_t [0,1,2,3,8,4,5,6] rfl ?_
  simp only [go_sem,jq,jj,jy,jv,jk,jx,q0,q12,q13,q14,q15,q16,q17,q19,true_or,true_and,and_true,implies_true]
  refine U_1 7 0 [8] rfl rfl ?_
  simp only [go_sem,jq,jj,jy,jv,jk,jx,q0,q12,q13,q14,q15,q16,q17,q19,true_or,true_and,and_true,implies_true]
  refine zkj (zx0 ch _ (H.cok hch hpb) (by rw [hch,zAH];omega)) rfl ?_
  rintro v h1 le1 ⟨q,rfl,eq1,Rq,fq⟩
  have H1:=H.grow le1
  obtain ⟨q0,q12,q13,q14,q15,q16,q17,q19⟩:=zLW H1.bx
  have rq:RowF 3 hb h1 b q:=⟨Rq,fun g hg=>⟨zmx H.le (fq g hg),fun e=>H.nbx (by rw [← e];exact fq g hg)⟩⟩
  have dq1:Apart p q:=fun g hg hq=>zAZ H.rp.1 hg (fq g hq)
  have dq2:Apart ch q:=fun g hg hq=>zAZ H.rc.1 hg (fq g hq)
  simp only [go_sem,jq,jj,jy,jv,jk,jx,q0,q12,q13,q14,q15,q16,q17,q19,true_or,true_and,and_true,implies_true]
  refine U_t [9,10] rfl ?_
  simp only [go_sem,jq,jj,jy,jv,jk,jx,q0,q12,q13,q14,q15,q16,q17,q19,true_or,true_and,and_true,implies_true]
  refine U_1 11 1 [8] rfl rfl ?_
  simp only [go_sem,jq,jj,jy,jv,jk,jx,q0,q12,q13,q14,q15,q16,q17,q19,true_or,true_and,and_true,implies_true]
  refine zLX (xs':=plC x L (.func (.func wfn) #[] cs.toArray) p ch q m0 m1 fo) (by simp only [go_sem]) (by simp only [go_sem]) rfl rfl H1.bx (own b H.nb) (by simp [plC]) rfl ?_
  refine Evs ?_
  refine U_t [12,13] rfl ?_
  simp only [go_sem,jq,jj,jy,jv,jk,jx,q0,q12,q13,q14,q15,q16,q17,q19,true_or,true_and,and_true,implies_true]
  refine U_1 14 1 [] rfl rfl ?_
  simp only [go_sem,jq,jj,jy,jv,jk,jx,q0,q12,q13,q14,q15,q16,q17,q19,true_or,true_and,and_true,implies_true]
  refine zLY (xs':=plC x L (.func (.func wfn) #[] cs.toArray) p ch q (w (p.l.map Con.con)) 0 fo) (by simp only [go_sem]) (by simp only [go_sem]) rfl rfl Hp.ins_same (own b H.nb) (by simp [plC]) rfl ?_
  try simp only [go_sem,jq,jj,jy,jv,jk,jx]
  refine U_t [15,16] rfl ?_
  simp only [go_sem,jq,jj,jy,jv,jk,jx,q0,q12,q13,q14,q15,q16,q17,q19,true_or,true_and,and_true,implies_true]
  refine U_1 17 1 [] rfl rfl ?_
  simp only [go_sem,jq,jj,jy,jv,jk,jx,q0,q12,q13,q14,q15,q16,q17,q19,true_or,true_and,and_true,implies_true]
  refine zLX (xs':=plC x L (.func (.func wfn) #[] cs.toArray) p ch q (w (p.l.map Con.con)) 0 true) (by simp only [go_sem]) (by simp only [go_sem]) rfl rfl Hp.ins_same (own b H.nb) (by simp [plC]) rfl ?_
  try simp only [go_sem,jq,jj,jy,jv,jk,jx]
  rw [Hp.ins_ins,Hp.ins_ins]
  refine U_d ?_
  refine Wk ?_
  exact ⟨p,ch,q,_,0,true,PV.mk2 H1 H1.le H1.rp H1.op H1.rc rq H1.d1 dq1 dq2,rfl,rfl,rfl,by rw [eq1,hch],rfl,rfl⟩
 have hx:¬ (p.l.length=L.l.length):=by have:=ne_of_beq_false hx;omega
 have hi:p.l.length < L.l.length:=by omega
 have hii:(p.l.length:Int) < L.l.length:=by omega
 have hlo:=hLo.el hi
 have hlm:=Sl.Ok.max hlo
 have hmem:L.l[p.l.length] ∈ L.l:=List.getElem_mem hi
 refine zc5 ?_
 refine Evs ?_
 repeat' first|refine Wa ?_|(simp only [go_sem,jq,jj,jy,jv,jk,jx,q0,q12,q13,q14,q15,q16,q17,q19,true_or,true_and,and_true,implies_true,zku hLo hi,hLo.some hi,hi,hii,jW,jY,and_self];try rfl)|refine Wb ?_|fail
 refine zoe (ι:=Nat × Hp × Sl DOption × Sl Int × Sl Int × Int × Int × Bool) (fun i=>⟨[(0,true,.c (.v (.pointer (some ⟨b,0,none⟩)))),(3,true,.c (.v (.int .i64 p.l.length))),(61,true,.c (.v L.l[p.l.length].val)),(62,true,.c (.v (.int .i64 L.l[p.l.length].l.length))),(63,true,.c (.v (.int .i64 i.1)))],[],i.2.1,0⟩)
  (fun i=>i.1≤L.l[p.l.length].l.length∧PV hb i.2.1 b x L (.func (.func wfn) #[] cs.toArray) i.2.2.1 i.2.2.2.1 i.2.2.2.2.1 i.2.2.2.2.2.1 i.2.2.2.2.2.2.1 i.2.2.2.2.2.2.2∧i.2.2.1.l=p.l∧i.2.2.2.1.l=ch.l∧BS ((List.range i.1).foldl (zMp (Con.con x) w ((LL L).drop (p.l.length+1)) (L.l[p.l.length].l.map Con.con) (p.l.map Con.con) pn) st) i.2.2.2.2.1 i.2.2.2.2.2.1 i.2.2.2.2.2.2.1 i.2.2.2.2.2.2.2) (fun i=>L.l[p.l.length].l.length - i.1) (0,h,p,ch,be,m0,m1,fo) ⟨Nat.zero_le _,H,rfl,rfl,hst⟩ [] ?_ ?_
 ·refine Evs ?_
  exact Gk
 rintro ⟨k,hk,p1,c1,be1,n0,n1,fo1⟩ ⟨hkl,H1,ep1,ec1,hB1⟩
 simp only at hkl H1 ep1 ec1 hB1
 obtain ⟨q0,q12,q13,q14,q15,q16,q17,q19⟩:=zLW H1.bx
 have hp1l:p1.l.length=p.l.length:=by rw [ep1]
 have hc1l:c1.l.length=p.l.length:=by rw [ec1,hch,zAH,hpn]
 refine Wk ?_
 refine zc9 rfl (fun hd=>?_) (fun hd=>?_)
 ·have hlt:=zjH hd
  have hxk:Enc.ok hk x:=Enc.mono H1.le H1.ox
  have hlk:L.l[p.l.length].Ok hk:=Sl.Ok.el (H1.oL.mono H1.le) hi
  obtain ⟨o,ho⟩:∃ o,L.l[p.l.length].l[k]=o:=⟨_,rfl⟩
  have hok0:Enc.ok hb o:=by rw [← ho];exact Sl.Ok.el (Sl.Ok.el H1.oL hi) hlt
  have hok:Enc.ok hk o:=Enc.mono H1.le hok0
  have hog:=hLg _ hmem o (by rw [← ho];exact List.getElem_mem hlt)
  have hgd:(L.l[p.l.length].l.map (Con.con (α:=DOption))).getD k zJX=Con.con o:=by simp [List.getD_eq_getElem?_getD,hlt,ho]
  have hgo:∀ q ∈ p1.l ++ [o],zBC (Con.con x.chart) x.fleet.l q.pas.l:=fun q hq=>by
   rcases List.mem_append.1 hq with hq|hq
   ·exact (hpg q (by rw [← ep1];exact hq)).1
   ·rw [List.mem_singleton.1 hq];exact hog.1
  have hszo:((p1.l ++ [o]).flatMap (·.pas.l)).length≤1048576:=by
   refine Nat.le_trans (zn1 (B:=1000) fun q hq=>?_) (by rw [List.length_append,List.length_singleton];omega)
   rcases List.mem_append.1 hq with hq|hq
   ·exact (hpg q (by rw [← ep1];exact hq)).2
   ·rw [List.mem_singleton.1 hq];exact hog.2
  have hstep:∀ st',zMp (Con.con x) w ((LL L).drop (p.l.length+1)) (L.l[p.l.length].l.map Con.con) (p.l.map Con.con) pn st' k=if zK7 (Con.con x) (p.l.map Con.con) (Con.con o)=true then srW (Con.con x) w ((LL L).drop (p.l.length+1)) (p.l.map Con.con ++ [Con.con o]) (pn ++ [k]) st' else st':=fun st'=>by rw [zMp,hgd]
  have hk90:=hLn _ hmem
  repeat' first|refine Wa ?_|(simp only [go_sem,jq,jj,jy,jv,jk,jx,zkC hlk hlt,hlk.some hlt,hlt,ho,jW];try rfl)|refine Wb ?_|fail
  refine znv rfl ?_
  refine U_t [0,4,8,1,5,2,6,3,7] rfl ?_
  simp only [go_sem,jq,jj,jy,jv,jk,jx,q0,q12,q13,q14,q15,q16,q17,q19,true_or,true_and,and_true,implies_true]
  refine U_1 9 0 [] rfl rfl ?_
  simp only [go_sem,jq,jj,jy,jv,jk,jx,q0,q12,q13,q14,q15,q16,q17,q19,true_or,true_and,and_true,implies_true]
  refine zhF (fun _=>zLM x p1 o _ hxk H1.pok hok hR hgo hszo (by omega)) ?_
  simp only [go_sem,jq,jj,jy,jv,jk,jx,q0,q12,q13,q14,q15,q16,q17,q19,true_or,true_and,and_true,implies_true]
  refine U_t [10] rfl ?_
  simp only [go_sem,jq,jj,jy,jv,jk,jx,q0,q12,q13,q14,q15,q16,q17,q19,true_or,true_and,and_true,implies_true]
  refine U_d ?_
  rw [ep1]
  refine zc9 rfl (fun hq=>?_) (fun hq=>?_)
  ·rw [Bool.not_eq_true'] at hq
   refine Wk ?_
   refine ⟨(k+1,hk,p1,c1,be1,n0,n1,fo1),[],⟨hlt,H1,ep1,ec1,?_⟩,by simp only;omega,?_⟩
   ·simp only
    rw [List.range_succ,List.foldl_append,List.foldl_cons,List.foldl_nil,hstep,if_neg (by rw [hq];exact Bool.false_ne_true)]
    exact hB1
   refine Evs ?_
   exact Gi (zjA hlt (by omega))
  rw [Bool.not_eq_false'] at hq
  refine zc5 ?_
  refine Evs ?_
  refine zc3 ?_
  refine zoc (ι:=Hp × Sl DOption × Sl Int) (fun i=>⟨[(0,true,.c (.v (.pointer (some ⟨b,0,none⟩)))),(3,true,.c (.v (.int .i64 p.l.length))),(61,true,.c (.v L.l[p.l.length].val)),(62,true,.c (.v (.int .i64 L.l[p.l.length].l.length))),(63,true,.c (.v (.int .i64 k)))],[],i.1,0⟩) (fun i=>PV hb i.1 b x L (.func (.func wfn) #[] cs.toArray) i.2.1 i.2.2 be1 n0 n1 fo1∧i.2.1.l=p1.l ++ [o]∧i.2.2.l=c1.l ++ [(k:Int)]) ?_ ?_
  ·refine znv rfl ?_
   refine U_t [0,1,2,6,9,13,3,10,4,11,5,12] rfl ?_
   simp only [go_sem,jq,jj,jy,jv,jk,jx,q0,q12,q13,q14,q15,q16,q17,q19,true_or,true_and,and_true,implies_true]
   refine U_m 7 [14] ⟨?_,?_,trivial⟩
   ·refine U_b 7 0 [12,5,11,4,10,3] rfl rfl ?_
    simp only [go_sem,jq,jj,jy,jv,jk,jx,q0,q12,q13,q14,q15,q16,q17,q19,true_or,true_and,and_true,implies_true]
    refine U_m 8 [14] ⟨?_,?_,trivial⟩
    ·refine U_b 8 3 [12,11,10] rfl rfl ?_
     simp only [go_sem,jq,jj,jy,jv,jk,jx,q0,q12,q13,q14,q15,q16,q17,q19,true_or,true_and,and_true,implies_true]
     refine znE (s:=p1) rfl H1.rp.1 (fun g hg=>own g (H1.rp.2 g hg).1) ?_
     refine Evs ?_
     refine ⟨rfl,by simp only [maxLen];omega,by omega,fun ad cap h2 P=>?_⟩
     have P':Pub (znC hk p1) 84 (Enc.size DOption) (p1.l ++ [o]).length ((p1.l ++ [o]).flatMap Enc.enc) ad cap h2:=by
      rw [List.length_append,List.flatMap_append];exact P
     obtain ⟨le2,kb2,rp2,oth2⟩:=zLV H1.le H1.nbx H1.rp P'
     obtain ⟨rc2,dc2⟩:=oth2 H1.rc H1.d1
     obtain ⟨rb2,db2⟩:=oth2 H1.rb H1.d2
     have nb2:h2 b ≠ none:=by rw [kb2];exact H1.nbx
     have bx2:=H1.bx
     rw [← kb2] at bx2
     obtain ⟨q0,q12,q13,q14,q15,q16,q17,q19⟩:=zLW bx2
     rw [show Value.slice ad (p1.l.length+1) cap=(Sl.mk ad cap (p1.l ++ [o])).val from by simp only [Sl.val,List.length_append,List.length_singleton]]
     try simp only [go_sem,jq,jj,jy,jv,jk,jx,q0,q12,q13,q14,q15,q16,q17,q19,true_or,true_and,and_true,implies_true]
     refine U_1 14 0 [12,11,10] rfl rfl ?_
     simp only [go_sem,jq,jj,jy,jv,jk,jx,q0,q12,q13,q14,q15,q16,q17,q19,true_or,true_and,and_true,implies_true]
     refine U_1 15 3 [] rfl rfl ?_
     simp only [go_sem,jq,jj,jy,jv,jk,jx,q0,q12,q13,q14,q15,q16,q17,q19,true_or,true_and,and_true,implies_true]
     refine znE (s:=c1) rfl rc2.1 (fun g hg=>own g (rc2.2 g hg).1) ?_
     refine Evs ?_
     refine ⟨rfl,by simp only [maxLen];omega,by omega,fun ad2 cap2 h3 P2=>?_⟩
     have P2':Pub (znC h2 c1) 3 (Enc.size Int) (c1.l ++ [(k:Int)]).length ((c1.l ++ [(k:Int)]).flatMap Enc.enc) ad2 cap2 h3:=by
      rw [List.length_append,List.flatMap_append];exact P2
     obtain ⟨le3,kb3,rc3,oth3⟩:=zLV le2 nb2 rc2 P2'
     obtain ⟨rp3,dp3⟩:=oth3 rp2 dc2.symm
     obtain ⟨rb3,db3⟩:=oth3 rb2 H1.d3
     have bx3:=bx2
     rw [← kb3] at bx3
     obtain ⟨q0,q12,q13,q14,q15,q16,q17,q19⟩:=zLW bx3
     rw [show Value.slice ad2 (c1.l.length+1) cap2=(Sl.mk ad2 cap2 (c1.l ++ [(k:Int)])).val from by simp only [Sl.val,List.length_append,List.length_singleton]]
     try simp only [go_sem,jq,jj,jy,jv,jk,jx,q0,q12,q13,q14,q15,q16,q17,q19,true_or,true_and,and_true,implies_true]
     refine U_t [16,17] rfl ?_
     simp only [go_sem,jq,jj,jy,jv,jk,jx,q0,q12,q13,q14,q15,q16,q17,q19,true_or,true_and,and_true,implies_true]
     refine U_1 18 1 [] rfl rfl ?_
     simp only [go_sem,jq,jj,jy,jv,jk,jx,q0,q12,q13,q14,q15,q16,q17,q19,true_or,true_and,and_true,implies_true]
     refine zLX (xs':=plC x L (.func (.func wfn) #[] cs.toArray) (Sl.mk ad cap (p1.l ++ [o])) c1 be1 n0 n1 fo1) (by simp only [go_sem]) (by simp only [go_sem]) rfl rfl bx3 (own b H.nb) (by simp [plC]) rfl ?_
     refine Evs ?_
     refine U_t [19,20] rfl ?_
     simp only [go_sem,jq,jj,jy,jv,jk,jx,q0,q12,q13,q14,q15,q16,q17,q19,true_or,true_and,and_true,implies_true]
     refine U_1 21 1 [] rfl rfl ?_
     simp only [go_sem,jq,jj,jy,jv,jk,jx,q0,q12,q13,q14,q15,q16,q17,q19,true_or,true_and,and_true,implies_true]
     refine zLX (xs':=plC x L (.func (.func wfn) #[] cs.toArray) (Sl.mk ad cap (p1.l ++ [o])) (Sl.mk ad2 cap2 (c1.l ++ [(k:Int)])) be1 n0 n1 fo1) (by simp only [go_sem]) (by simp only [go_sem]) rfl rfl Hp.ins_same (own b H.nb) (by simp [plC]) rfl ?_
     refine Evs ?_
     rw [Hp.ins_ins]
     refine U_d ?_
     refine ⟨(_,Sl.mk ad cap (p1.l ++ [o]),Sl.mk ad2 cap2 (c1.l ++ [(k:Int)])),[],⟨PV.mk2 H1 le3 rp3 (fun y hy=>?_) rc3 rb3 dp3.symm db2 db3,rfl,rfl⟩,?_⟩
     ·rcases List.mem_append.1 hy with hy|hy
      ·exact H1.op y hy
      ·rw [List.mem_singleton.1 hy];exact hok0
     refine Evs ?_
     exact Gk
    ·refine U_b 14 0 [12,5,11,4,10,3] rfl rfl ?_
     simp only [go_sem,jq,jj,jy,jv,jk,jx,q0,q12,q13,q14,q15,q16,q17,q19,true_or,true_and,and_true,implies_true]
     refine U_1 8 3 [12,11,10] rfl rfl ?_
     simp only [go_sem,jq,jj,jy,jv,jk,jx,q0,q12,q13,q14,q15,q16,q17,q19,true_or,true_and,and_true,implies_true]
     refine znE (s:=p1) rfl H1.rp.1 (fun g hg=>own g (H1.rp.2 g hg).1) ?_
     refine Evs ?_
     refine ⟨rfl,by simp only [maxLen];omega,by omega,fun ad cap h2 P=>?_⟩
     have P':Pub (znC hk p1) 84 (Enc.size DOption) (p1.l ++ [o]).length ((p1.l ++ [o]).flatMap Enc.enc) ad cap h2:=by
      rw [List.length_append,List.flatMap_append];exact P
     obtain ⟨le2,kb2,rp2,oth2⟩:=zLV H1.le H1.nbx H1.rp P'
     obtain ⟨rc2,dc2⟩:=oth2 H1.rc H1.d1
     obtain ⟨rb2,db2⟩:=oth2 H1.rb H1.d2
     have nb2:h2 b ≠ none:=by rw [kb2];exact H1.nbx
     have bx2:=H1.bx
     rw [← kb2] at bx2
     obtain ⟨q0,q12,q13,q14,q15,q16,q17,q19⟩:=zLW bx2
     rw [show Value.slice ad (p1.l.length+1) cap=(Sl.mk ad cap (p1.l ++ [o])).val from by simp only [Sl.val,List.length_append,List.length_singleton]]
     try simp only [go_sem,jq,jj,jy,jv,jk,jx,q0,q12,q13,q14,q15,q16,q17,q19,true_or,true_and,and_true,implies_true]
     refine U_1 15 3 [] rfl rfl ?_
     simp only [go_sem,jq,jj,jy,jv,jk,jx,q0,q12,q13,q14,q15,q16,q17,q19,true_or,true_and,and_true,implies_true]
     refine znE (s:=c1) rfl rc2.1 (fun g hg=>own g (rc2.2 g hg).1) ?_
     refine Evs ?_
     refine ⟨rfl,by simp only [maxLen];omega,by omega,fun ad2 cap2 h3 P2=>?_⟩
     have P2':Pub (znC h2 c1) 3 (Enc.size Int) (c1.l ++ [(k:Int)]).length ((c1.l ++ [(k:Int)]).flatMap Enc.enc) ad2 cap2 h3:=by
      rw [List.length_append,List.flatMap_append];exact P2
     obtain ⟨le3,kb3,rc3,oth3⟩:=zLV le2 nb2 rc2 P2'
     obtain ⟨rp3,dp3⟩:=oth3 rp2 dc2.symm
     obtain ⟨rb3,db3⟩:=oth3 rb2 H1.d3
     have bx3:=bx2
     rw [← kb3] at bx3
     obtain ⟨q0,q12,q13,q14,q15,q16,q17,q19⟩:=zLW bx3
     rw [show Value.slice ad2 (c1.l.length+1) cap2=(Sl.mk ad2 cap2 (c1.l ++ [(k:Int)])).val from by simp only [Sl.val,List.length_append,List.length_singleton]]
     try simp only [go_sem,jq,jj,jy,jv,jk,jx,q0,q12,q13,q14,q15,q16,q17,q19,true_or,true_and,and_true,implies_true]
     refine U_t [16,17] rfl ?_
     simp only [go_sem,jq,jj,jy,jv,jk,jx,q0,q12,q13,q14,q15,q16,q17,q19,true_or,true_and,and_true,implies_true]
     refine U_1 18 1 [] rfl rfl ?_
     simp only [go_sem,jq,jj,jy,jv,jk,jx,q0,q12,q13,q14,q15,q16,q17,q19,true_or,true_and,and_true,implies_true]
     refine zLX (xs':=plC x L (.func (.func wfn) #[] cs.toArray) (Sl.mk ad cap (p1.l ++ [o])) c1 be1 n0 n1 fo1) (by simp only [go_sem]) (by simp only [go_sem]) rfl rfl bx3 (own b H.nb) (by simp [plC]) rfl ?_
     refine Evs ?_
     refine U_t [19,20] rfl ?_
     simp only [go_sem,jq,jj,jy,jv,jk,jx,q0,q12,q13,q14,q15,q16,q17,q19,true_or,true_and,and_true,implies_true]
     refine U_1 21 1 [] rfl rfl ?_
     simp only [go_sem,jq,jj,jy,jv,jk,jx,q0,q12,q13,q14,q15,q16,q17,q19,true_or,true_and,and_true,implies_true]
     refine zLX (xs':=plC x L (.func (.func wfn) #[] cs.toArray) (Sl.mk ad cap (p1.l ++ [o])) (Sl.mk ad2 cap2 (c1.l ++ [(k:Int)])) be1 n0 n1 fo1) (by simp only [go_sem]) (by simp only [go_sem]) rfl rfl Hp.ins_same (own b H.nb) (by simp [plC]) rfl ?_
     refine Evs ?_
     rw [Hp.ins_ins]
     refine U_d ?_
     refine ⟨(_,Sl.mk ad cap (p1.l ++ [o]),Sl.mk ad2 cap2 (c1.l ++ [(k:Int)])),[],⟨PV.mk2 H1 le3 rp3 (fun y hy=>?_) rc3 rb3 dp3.symm db2 db3,rfl,rfl⟩,?_⟩
     ·rcases List.mem_append.1 hy with hy|hy
      ·exact H1.op y hy
      ·rw [List.mem_singleton.1 hy];exact hok0
     refine Evs ?_
     exact Gk
   ·refine U_b 14 0 [12,5,11,4,10,3,6] rfl rfl ?_
    simp only [go_sem,jq,jj,jy,jv,jk,jx,q0,q12,q13,q14,q15,q16,q17,q19,true_or,true_and,and_true,implies_true]
    refine U_1 7 0 [12,5,11,4,10,3] rfl rfl ?_
    simp only [go_sem,jq,jj,jy,jv,jk,jx,q0,q12,q13,q14,q15,q16,q17,q19,true_or,true_and,and_true,implies_true]
    refine U_1 8 3 [12,11,10] rfl rfl ?_
    simp only [go_sem,jq,jj,jy,jv,jk,jx,q0,q12,q13,q14,q15,q16,q17,q19,true_or,true_and,and_true,implies_true]
    refine znE (s:=p1) rfl H1.rp.1 (fun g hg=>own g (H1.rp.2 g hg).1) ?_
    refine Evs ?_
    refine ⟨rfl,by simp only [maxLen];omega,by omega,fun ad cap h2 P=>?_⟩
    have P':Pub (znC hk p1) 84 (Enc.size DOption) (p1.l ++ [o]).length ((p1.l ++ [o]).flatMap Enc.enc) ad cap h2:=by
     rw [List.length_append,List.flatMap_append];exact P
    obtain ⟨le2,kb2,rp2,oth2⟩:=zLV H1.le H1.nbx H1.rp P'
    obtain ⟨rc2,dc2⟩:=oth2 H1.rc H1.d1
    obtain ⟨rb2,db2⟩:=oth2 H1.rb H1.d2
    have nb2:h2 b ≠ none:=by rw [kb2];exact H1.nbx
    have bx2:=H1.bx
    rw [← kb2] at bx2
    obtain ⟨q0,q12,q13,q14,q15,q16,q17,q19⟩:=zLW bx2
    rw [show Value.slice ad (p1.l.length+1) cap=(Sl.mk ad cap (p1.l ++ [o])).val from by simp only [Sl.val,List.length_append,List.length_singleton]]
    try simp only [go_sem,jq,jj,jy,jv,jk,jx,q0,q12,q13,q14,q15,q16,q17,q19,true_or,true_and,and_true,implies_true]
    refine U_1 15 3 [] rfl rfl ?_
    simp only [go_sem,jq,jj,jy,jv,jk,jx,q0,q12,q13,q14,q15,q16,q17,q19,true_or,true_and,and_true,implies_true]
    refine znE (s:=c1) rfl rc2.1 (fun g hg=>own g (rc2.2 g hg).1) ?_
    refine Evs ?_
    refine ⟨rfl,by simp only [maxLen];omega,by omega,fun ad2 cap2 h3 P2=>?_⟩
    have P2':Pub (znC h2 c1) 3 (Enc.size Int) (c1.l ++ [(k:Int)]).length ((c1.l ++ [(k:Int)]).flatMap Enc.enc) ad2 cap2 h3:=by
     rw [List.length_append,List.flatMap_append];exact P2
    obtain ⟨le3,kb3,rc3,oth3⟩:=zLV le2 nb2 rc2 P2'
    obtain ⟨rp3,dp3⟩:=oth3 rp2 dc2.symm
    obtain ⟨rb3,db3⟩:=oth3 rb2 H1.d3
    have bx3:=bx2
    rw [← kb3] at bx3
    obtain ⟨q0,q12,q13,q14,q15,q16,q17,q19⟩:=zLW bx3
    rw [show Value.slice ad2 (c1.l.length+1) cap2=(Sl.mk ad2 cap2 (c1.l ++ [(k:Int)])).val from by simp only [Sl.val,List.length_append,List.length_singleton]]
    try simp only [go_sem,jq,jj,jy,jv,jk,jx,q0,q12,q13,q14,q15,q16,q17,q19,true_or,true_and,and_true,implies_true]
    refine U_t [16,17] rfl ?_
    simp only [go_sem,jq,jj,jy,jv,jk,jx,q0,q12,q13,q14,q15,q16,q17,q19,true_or,true_and,and_true,implies_true]
    refine U_1 18 1 [] rfl rfl ?_
    simp only [go_sem,jq,jj,jy,jv,jk,jx,q0,q12,q13,q14,q15,q16,q17,q19,true_or,true_and,and_true,implies_true]
    refine zLX (xs':=plC x L (.func (.func wfn) #[] cs.toArray) (Sl.mk ad cap (p1.l ++ [o])) c1 be1 n0 n1 fo1) (by simp only [go_sem]) (by simp only [go_sem]) rfl rfl bx3 (own b H.nb) (by simp [plC]) rfl ?_
    refine Evs ?_
    refine U_t [19,20] rfl ?_
    simp only [go_sem,jq,jj,jy,jv,jk,jx,q0,q12,q13,q14,q15,q16,q17,q19,true_or,true_and,and_true,implies_true]
    refine U_1 21 1 [] rfl rfl ?_
    simp only [go_sem,jq,jj,jy,jv,jk,jx,q0,q12,q13,q14,q15,q16,q17,q19,true_or,true_and,and_true,implies_true]
    refine zLX (xs':=plC x L (.func (.func wfn) #[] cs.toArray) (Sl.mk ad cap (p1.l ++ [o])) (Sl.mk ad2 cap2 (c1.l ++ [(k:Int)])) be1 n0 n1 fo1) (by simp only [go_sem]) (by simp only [go_sem]) rfl rfl Hp.ins_same (own b H.nb) (by simp [plC]) rfl ?_
    refine Evs ?_
    rw [Hp.ins_ins]
    refine U_d ?_
    refine ⟨(_,Sl.mk ad cap (p1.l ++ [o]),Sl.mk ad2 cap2 (c1.l ++ [(k:Int)])),[],⟨PV.mk2 H1 le3 rp3 (fun y hy=>?_) rc3 rb3 dp3.symm db2 db3,rfl,rfl⟩,?_⟩
    ·rcases List.mem_append.1 hy with hy|hy
     ·exact H1.op y hy
     ·rw [List.mem_singleton.1 hy];exact hok0
    refine Evs ?_
    exact Gk
  rintro ⟨h5,p5,c5⟩ ⟨H5,ep5,ec5⟩
  simp only at H5 ep5 ec5
  first|refine zmR [0,1] rfl ?_|refine zmQ [0,1] rfl ?_|(refine zc3 ?_;first|refine zmR [0,1] rfl ?_|refine zmQ [0,1] rfl ?_)
  refine Evs ?_
  refine zli (ih (f - 1) (by omega) (pn ++ [k]) p5 c5 be1 n0 n1 fo1 _ h5 H5 hB1 (by rw [ep5,List.length_append,List.length_singleton];omega) (by rw [ec5,ec1,hch];simp [zs]) (by rw [ep5,List.length_append,List.length_append,List.length_singleton,List.length_singleton];omega) (fun y hy=>?_) (fun y hy=>?_)) rfl (fun g hg=>⟨hg.2,own g hg.1⟩) ?_
  ·rw [ep5] at hy
   rcases List.mem_append.1 hy with hy|hy
   ·exact hpg y (by rw [← ep1];exact hy)
   ·rw [List.mem_singleton.1 hy];exact hog
  ·rcases List.mem_append.1 hy with hy|hy
   ·exact hpb y hy
   ·rw [List.mem_singleton.1 hy];omega
  rintro v h6 kp ⟨p6,c6,be6,m06,m16,fo6,H6,ep6,ec6,hB6⟩
  obtain ⟨q0,q12,q13,q14,q15,q16,q17,q19⟩:=zLW H6.bx
  have hp6l:p6.l.length=p.l.length+1:=by rw [ep6,ep5,List.length_append,List.length_singleton,hp1l]
  have hc6l:c6.l.length=p.l.length+1:=by rw [ec6,ec5,List.length_append,List.length_singleton,hc1l]
  have hp6c:=H6.rp.1.1
  have hc6c:=H6.rc.1.1
  refine Wk ?_
  refine znv rfl ?_
  refine U_t [0,1,2,6,8,12,3,9,4,10,5,11] rfl ?_
  simp only [go_sem,jq,jj,jy,jv,jk,jx,q0,q12,q13,q14,q15,q16,q17,q19,true_or,true_and,and_true,implies_true,Int.toNat_zero,Nat.zero_mul,zmA,zmB,ite_self,Nat.sub_zero,jW]
  refine U_m 7 [13] ⟨?_,?_,trivial⟩
  ·refine U_b 7 0 [11,10,9] rfl rfl ?_
   simp only [go_sem,jq,jj,jy,jv,jk,jx,q0,q12,q13,q14,q15,q16,q17,q19,true_or,true_and,and_true,implies_true,Int.toNat_zero,Nat.zero_mul,zmA,zmB,ite_self,Nat.sub_zero,jW]
   refine ⟨by omega,?_⟩
   rw [zmC (by omega)]
   try simp only [go_sem,jq,jj,jy,jv,jk,jx,q0,q12,q13,q14,q15,q16,q17,q19,true_or,true_and,and_true,implies_true,Int.toNat_zero,Nat.zero_mul,zmA,zmB,ite_self,Nat.sub_zero,jW]
   refine U_t [14,15] rfl ?_
   simp only [go_sem,jq,jj,jy,jv,jk,jx,q0,q12,q13,q14,q15,q16,q17,q19,true_or,true_and,and_true,implies_true,Int.toNat_zero,Nat.zero_mul,zmA,zmB,ite_self,Nat.sub_zero,jW]
   refine U_m 13 [16] ⟨?_,?_,trivial⟩
   ·refine U_b 13 0 [15,14] rfl rfl ?_
    simp only [go_sem,jq,jj,jy,jv,jk,jx,q0,q12,q13,q14,q15,q16,q17,q19,true_or,true_and,and_true,implies_true,Int.toNat_zero,Nat.zero_mul,zmA,zmB,ite_self,Nat.sub_zero,jW]
    refine ⟨by omega,?_⟩
    rw [zmC (by omega)]
    try simp only [go_sem,jq,jj,jy,jv,jk,jx,q0,q12,q13,q14,q15,q16,q17,q19,true_or,true_and,and_true,implies_true,Int.toNat_zero,Nat.zero_mul,zmA,zmB,ite_self,Nat.sub_zero,jW]
    refine U_1 16 1 [] rfl rfl ?_
    simp only [go_sem,jq,jj,jy,jv,jk,jx,q0,q12,q13,q14,q15,q16,q17,q19,true_or,true_and,and_true,implies_true,Int.toNat_zero,Nat.zero_mul,zmA,zmB,ite_self,Nat.sub_zero,jW]
    refine zLX (xs':=plC x L (.func (.func wfn) #[] cs.toArray) (p6.to p.l.length) c6 be6 m06 m16 fo6) (by simp only [go_sem]) (by simp only [go_sem]) rfl rfl H6.bx (own b H.nb) (by simp [plC]) rfl ?_
    obtain ⟨q0,q12,q13,q14,q15,q16,q17,q19⟩:=zLW (h:=h6.ins b (.cells (plC x L (.func (.func wfn) #[] cs.toArray) (p6.to p.l.length) c6 be6 m06 m16 fo6).toArray 262 (0,0))) Hp.ins_same
    try simp only [go_sem,jq,jj,jy,jv,jk,jx,q0,q12,q13,q14,q15,q16,q17,q19,true_or,true_and,and_true,implies_true,Int.toNat_zero,Nat.zero_mul,zmA,zmB,ite_self,Nat.sub_zero,jW]
    refine U_t [17,18] rfl ?_
    simp only [go_sem,jq,jj,jy,jv,jk,jx,q0,q12,q13,q14,q15,q16,q17,q19,true_or,true_and,and_true,implies_true,Int.toNat_zero,Nat.zero_mul,zmA,zmB,ite_self,Nat.sub_zero,jW]
    refine U_1 19 1 [] rfl rfl ?_
    simp only [go_sem,jq,jj,jy,jv,jk,jx,q0,q12,q13,q14,q15,q16,q17,q19,true_or,true_and,and_true,implies_true,Int.toNat_zero,Nat.zero_mul,zmA,zmB,ite_self,Nat.sub_zero,jW]
    refine zLX (xs':=plC x L (.func (.func wfn) #[] cs.toArray) (p6.to p.l.length) (c6.to p.l.length) be6 m06 m16 fo6) (by simp only [go_sem]) (by simp only [go_sem]) rfl rfl Hp.ins_same (own b H.nb) (by simp [plC]) rfl ?_
    refine Evs ?_
    rw [Hp.ins_ins]
    refine U_d ?_
    refine Wk ?_
    refine ⟨(k+1,_,p6.to p.l.length,c6.to p.l.length,be6,m06,m16,fo6),[],⟨hlt,PV.mk2 H6 H6.le (H6.rp.cut (by omega)) (fun y hy=>H6.op y (List.mem_of_mem_take hy)) (H6.rc.cut (by omega)) H6.rb H6.d1 H6.d2 H6.d3,?_,?_,?_⟩,by simp only;omega,?_⟩
    ·show p6.l.take p.l.length=p.l
     rw [ep6,ep5,ep1]
     exact List.take_left' rfl
    ·show c6.l.take p.l.length=ch.l
     rw [ec6,ec5,ec1]
     exact List.take_left' (by rw [hch,zAH,hpn])
    ·simp only
     rw [List.range_succ,List.foldl_append,List.foldl_cons,List.foldl_nil,hstep,if_pos hq]
     have hB7:=hB6
     rw [show p5.l.length=p.l.length+1 by rw [ep5,List.length_append,List.length_singleton,hp1l],ep5,ep1,List.map_append,List.map_cons,List.map_nil] at hB7
     exact hB7
    refine Evs ?_
    exact Gi (zjA hlt (by omega))
   ·refine U_b 16 1 [] rfl rfl ?_
    simp only [go_sem,jq,jj,jy,jv,jk,jx,q0,q12,q13,q14,q15,q16,q17,q19,true_or,true_and,and_true,implies_true,Int.toNat_zero,Nat.zero_mul,zmA,zmB,ite_self,Nat.sub_zero,jW]
    refine zLX (xs':=plC x L (.func (.func wfn) #[] cs.toArray) (p6.to p.l.length) c6 be6 m06 m16 fo6) (by simp only [go_sem]) (by simp only [go_sem]) rfl rfl H6.bx (own b H.nb) (by simp [plC]) rfl ?_
    obtain ⟨q0,q12,q13,q14,q15,q16,q17,q19⟩:=zLW (h:=h6.ins b (.cells (plC x L (.func (.func wfn) #[] cs.toArray) (p6.to p.l.length) c6 be6 m06 m16 fo6).toArray 262 (0,0))) Hp.ins_same
    try simp only [go_sem,jq,jj,jy,jv,jk,jx,q0,q12,q13,q14,q15,q16,q17,q19,true_or,true_and,and_true,implies_true,Int.toNat_zero,Nat.zero_mul,zmA,zmB,ite_self,Nat.sub_zero,jW]
    refine U_1 13 0 [] rfl rfl ?_
    simp only [go_sem,jq,jj,jy,jv,jk,jx,q0,q12,q13,q14,q15,q16,q17,q19,true_or,true_and,and_true,implies_true,Int.toNat_zero,Nat.zero_mul,zmA,zmB,ite_self,Nat.sub_zero,jW]
    refine ⟨by omega,?_⟩
    rw [zmC (by omega)]
    try simp only [go_sem,jq,jj,jy,jv,jk,jx,q0,q12,q13,q14,q15,q16,q17,q19,true_or,true_and,and_true,implies_true,Int.toNat_zero,Nat.zero_mul,zmA,zmB,ite_self,Nat.sub_zero,jW]
    refine U_t [17,18] rfl ?_
    simp only [go_sem,jq,jj,jy,jv,jk,jx,q0,q12,q13,q14,q15,q16,q17,q19,true_or,true_and,and_true,implies_true,Int.toNat_zero,Nat.zero_mul,zmA,zmB,ite_self,Nat.sub_zero,jW]
    refine U_1 19 1 [] rfl rfl ?_
    simp only [go_sem,jq,jj,jy,jv,jk,jx,q0,q12,q13,q14,q15,q16,q17,q19,true_or,true_and,and_true,implies_true,Int.toNat_zero,Nat.zero_mul,zmA,zmB,ite_self,Nat.sub_zero,jW]
    refine zLX (xs':=plC x L (.func (.func wfn) #[] cs.toArray) (p6.to p.l.length) (c6.to p.l.length) be6 m06 m16 fo6) (by simp only [go_sem]) (by simp only [go_sem]) rfl rfl Hp.ins_same (own b H.nb) (by simp [plC]) rfl ?_
    refine Evs ?_
    rw [Hp.ins_ins]
    refine U_d ?_
    refine Wk ?_
    refine ⟨(k+1,_,p6.to p.l.length,c6.to p.l.length,be6,m06,m16,fo6),[],⟨hlt,PV.mk2 H6 H6.le (H6.rp.cut (by omega)) (fun y hy=>H6.op y (List.mem_of_mem_take hy)) (H6.rc.cut (by omega)) H6.rb H6.d1 H6.d2 H6.d3,?_,?_,?_⟩,by simp only;omega,?_⟩
    ·show p6.l.take p.l.length=p.l
     rw [ep6,ep5,ep1]
     exact List.take_left' rfl
    ·show c6.l.take p.l.length=ch.l
     rw [ec6,ec5,ec1]
     exact List.take_left' (by rw [hch,zAH,hpn])
    ·simp only
     rw [List.range_succ,List.foldl_append,List.foldl_cons,List.foldl_nil,hstep,if_pos hq]
     have hB7:=hB6
     rw [show p5.l.length=p.l.length+1 by rw [ep5,List.length_append,List.length_singleton,hp1l],ep5,ep1,List.map_append,List.map_cons,List.map_nil] at hB7
     exact hB7
    refine Evs ?_
    exact Gi (zjA hlt (by omega))
  ·refine U_b 13 0 [5,4,3] rfl rfl ?_
   simp only [go_sem,jq,jj,jy,jv,jk,jx,q0,q12,q13,q14,q15,q16,q17,q19,true_or,true_and,and_true,implies_true,Int.toNat_zero,Nat.zero_mul,zmA,zmB,ite_self,Nat.sub_zero,jW]
   refine ⟨by omega,?_⟩
   rw [zmC (by omega)]
   try simp only [go_sem,jq,jj,jy,jv,jk,jx,q0,q12,q13,q14,q15,q16,q17,q19,true_or,true_and,and_true,implies_true,Int.toNat_zero,Nat.zero_mul,zmA,zmB,ite_self,Nat.sub_zero,jW]
   refine U_1 7 0 [] rfl rfl ?_
   simp only [go_sem,jq,jj,jy,jv,jk,jx,q0,q12,q13,q14,q15,q16,q17,q19,true_or,true_and,and_true,implies_true,Int.toNat_zero,Nat.zero_mul,zmA,zmB,ite_self,Nat.sub_zero,jW]
   refine ⟨by omega,?_⟩
   rw [zmC (by omega)]
   try simp only [go_sem,jq,jj,jy,jv,jk,jx,q0,q12,q13,q14,q15,q16,q17,q19,true_or,true_and,and_true,implies_true,Int.toNat_zero,Nat.zero_mul,zmA,zmB,ite_self,Nat.sub_zero,jW]
   refine U_t [14,15] rfl ?_
   simp only [go_sem,jq,jj,jy,jv,jk,jx,q0,q12,q13,q14,q15,q16,q17,q19,true_or,true_and,and_true,implies_true,Int.toNat_zero,Nat.zero_mul,zmA,zmB,ite_self,Nat.sub_zero,jW]
   refine U_1 16 1 [] rfl rfl ?_
   simp only [go_sem,jq,jj,jy,jv,jk,jx,q0,q12,q13,q14,q15,q16,q17,q19,true_or,true_and,and_true,implies_true,Int.toNat_zero,Nat.zero_mul,zmA,zmB,ite_self,Nat.sub_zero,jW]
   refine zLX (xs':=plC x L (.func (.func wfn) #[] cs.toArray) (p6.to p.l.length) c6 be6 m06 m16 fo6) (by simp only [go_sem]) (by simp only [go_sem]) rfl rfl H6.bx (own b H.nb) (by simp [plC]) rfl ?_
   obtain ⟨q0,q12,q13,q14,q15,q16,q17,q19⟩:=zLW (h:=h6.ins b (.cells (plC x L (.func (.func wfn) #[] cs.toArray) (p6.to p.l.length) c6 be6 m06 m16 fo6).toArray 262 (0,0))) Hp.ins_same
   try simp only [go_sem,jq,jj,jy,jv,jk,jx,q0,q12,q13,q14,q15,q16,q17,q19,true_or,true_and,and_true,implies_true,Int.toNat_zero,Nat.zero_mul,zmA,zmB,ite_self,Nat.sub_zero,jW]
   refine U_t [17,18] rfl ?_
   simp only [go_sem,jq,jj,jy,jv,jk,jx,q0,q12,q13,q14,q15,q16,q17,q19,true_or,true_and,and_true,implies_true,Int.toNat_zero,Nat.zero_mul,zmA,zmB,ite_self,Nat.sub_zero,jW]
   refine U_1 19 1 [] rfl rfl ?_
   simp only [go_sem,jq,jj,jy,jv,jk,jx,q0,q12,q13,q14,q15,q16,q17,q19,true_or,true_and,and_true,implies_true,Int.toNat_zero,Nat.zero_mul,zmA,zmB,ite_self,Nat.sub_zero,jW]
   refine zLX (xs':=plC x L (.func (.func wfn) #[] cs.toArray) (p6.to p.l.length) (c6.to p.l.length) be6 m06 m16 fo6) (by simp only [go_sem]) (by simp only [go_sem]) rfl rfl Hp.ins_same (own b H.nb) (by simp [plC]) rfl ?_
   refine Evs ?_
   rw [Hp.ins_ins]
   refine U_d ?_
   refine Wk ?_
   refine ⟨(k+1,_,p6.to p.l.length,c6.to p.l.length,be6,m06,m16,fo6),[],⟨hlt,PV.mk2 H6 H6.le (H6.rp.cut (by omega)) (fun y hy=>H6.op y (List.mem_of_mem_take hy)) (H6.rc.cut (by omega)) H6.rb H6.d1 H6.d2 H6.d3,?_,?_,?_⟩,by simp only;omega,?_⟩
   ·show p6.l.take p.l.length=p.l
    rw [ep6,ep5,ep1]
    exact List.take_left' rfl
   ·show c6.l.take p.l.length=ch.l
    rw [ec6,ec5,ec1]
    exact List.take_left' (by rw [hch,zAH,hpn])
   ·simp only
    rw [List.range_succ,List.foldl_append,List.foldl_cons,List.foldl_nil,hstep,if_pos hq]
    have hB7:=hB6
    rw [show p5.l.length=p.l.length+1 by rw [ep5,List.length_append,List.length_singleton,hp1l],ep5,ep1,List.map_append,List.map_cons,List.map_nil] at hB7
    exact hB7
   refine Evs ?_
   exact Gi (zjA hlt (by omega))
 ·have hge:=zjI hd
  obtain rfl:k=L.l[p.l.length].l.length:=by omega
  refine Wk ?_
  refine ⟨p1,c1,be1,n0,n1,fo1,H1,ep1,ec1,?_⟩
  rw [zMo hi,srW,if_neg (by rw [hq];exact Bool.false_ne_true),List.length_map]
  exact hB1
def BSS (st:BSt) (be:Sl Int) (m:Int) (fo:Bool):Prop:=match st with
 | none=>fo=false
 | some (w,c)=>fo=true∧be.l=zs w∧m=c
theorem z0N {st:BSt} {be:Sl Int} {m c:Int} {fo:Bool} (h:BSS st be m fo):(fo && decide (m≤c))=cut st c:=by
 cases st with
 | none=>rw [show fo=false from h];rfl
 | some s =>
  obtain ⟨w',c'⟩:=s
  obtain ⟨rfl,-,rfl⟩:=h
  rw [cut,Bool.true_and]
def skC (x:DHarbour) (L:Sl (Sl DOption)) (cx:Sl (Sl (Sl (Sl Bool)))) (rs be:Sl Int) (m:Int) (fo:Bool):List Value:=[.int .i64 x.forecast.tide.mean,x.forecast.tide.parts.val,x.forecast.surges.val,x.chart.points.val,x.chart.segments.val,x.fleet.val,.int .i64 x.regime.gap,.bool x.regime.noMeet,.int .i64 x.crew.tugs,.int .i64 x.crew.pilots,.int .i64 x.crew.rest,x.crew.moves.val,L.val,cx.val,rs.val,be.val,.int .i64 m,.bool fo]
structure SK (hb h:Hp) (b:Nat) (x:DHarbour) (L:Sl (Sl DOption)) (cx:Sl (Sl (Sl (Sl Bool)))) (rs be:Sl Int) (m:Int) (fo:Bool):Prop where
 le:hb.le h
 ox:Enc.ok hb x
 oL:L.Ok hb
 oc:cx.Ok hb
 ors:rs.Ok hb
 nb:hb b=none
 bx:h b=some (.cells (skC x L cx rs be m fo).toArray 258 (0,0))
 rb:RowF 3 hb h b be
section
variable {hb h h2:Hp} {b:Nat} {x:DHarbour} {L:Sl (Sl DOption)} {cx:Sl (Sl (Sl (Sl Bool)))} {rs be be':Sl Int} {m m':Int} {fo fo':Bool}
theorem z0O (H:h b=some (.cells (skC x L cx rs be m fo).toArray 258 (0,0))):h.lds (some ⟨b,3,none⟩) 2=some [x.chart.points.val,x.chart.segments.val]∧h.lds (some ⟨b,5,none⟩) 1=some [x.fleet.val]∧h.lds (some ⟨b,8,none⟩) 4=some [.int .i64 x.crew.tugs,.int .i64 x.crew.pilots,.int .i64 x.crew.rest,x.crew.moves.val]∧h.lds (some ⟨b,12,none⟩) 1=some [L.val]∧h.lds (some ⟨b,13,none⟩) 1=some [cx.val]∧h.lds (some ⟨b,14,none⟩) 1=some [rs.val]∧h.lds (some ⟨b,15,none⟩) 1=some [be.val]∧h.lds (some ⟨b,16,none⟩) 1=some [.int .i64 m]∧h.lds (some ⟨b,17,none⟩) 1=some [.bool fo]:=by
 unfold skC at H
 refine ⟨?_,?_,?_,?_,?_,?_,?_,?_,?_⟩ <;> exact zmG H rfl (by simp)
theorem SK.nbx (H:SK hb h b x L cx rs be m fo):h b ≠ none:=by rw [H.bx];exact fun e=>by cases e
theorem SK.grow (H:SK hb h b x L cx rs be m fo) (hle:h.le h2):SK hb h2 b x L cx rs be m fo :=
 ⟨Hp.le_trans H.le hle,H.ox,H.oL,H.oc,H.ors,H.nb,hle _ _ H.bx,H.rb.grow hle⟩
theorem SK.mk2 (H:SK hb h b x L cx rs be m fo) (hle:hb.le h2) (rb:RowF 3 hb h2 b be') :
  SK hb (h2.ins b (.cells (skC x L cx rs be' m' fo').toArray 258 (0,0))) b x L cx rs be' m' fo':=by
 refine ⟨fun k o hk=>?_,H.ox,H.oL,H.oc,H.ors,H.nb,Hp.ins_same,rb.ins⟩
 rw [Hp.ins_ne (fun e=>by subst e;rw [H.nb] at hk;cases hk)]
 exact hle k o hk
end
theorem z0P {h:Hp} {b:Nat}:(h.del b).le h:=fun k o hk=>by
 simp only [Hp.del] at hk
 split at hk
 ·cases hk
 ·exact hk
theorem z0Q {h h2:Hp} {b:Nat} (hle:∀ k o,h k=some o→¬ k=b→h2 k=some o):(h.del b).le (h2.del b):=fun k o hk=>by
 simp only [Hp.del] at hk ⊢
 split at hk
 ·cases hk
 ·rename_i hne;rw [if_neg hne];exact hle k o hk hne
theorem RowF.del {α:Type} [Enc α] {e:TypeId} {hb h:Hp} {b:Nat} {s:Sl α} (H:RowF e hb h b s):RowAt e (h.del b) s:=H.1.keep fun g hg=>by
 simp only [Hp.del]
 rw [if_neg (H.2 g hg).2]
def PR (L:List (Sl DOption)) (pn:List Nat) (p:List DOption):Prop:=p.length=pn.length∧∀ i (hi:i < pn.length) (hi2:i < p.length),∃ (h1:i < L.length) (h2:pn[i] < L[i].l.length),p[i]=L[i].l[pn[i]]
theorem PR.snoc {L:List (Sl DOption)} {pn:List Nat} {p:List DOption} (H:PR L pn p) {n:Nat} (h1:pn.length < L.length) (h2:n < L[pn.length].l.length):PR L (pn ++ [n]) (p ++ [L[pn.length].l[n]]):=by
 refine ⟨by rw [List.length_append,List.length_append,H.1];rfl,fun i hi hi2=>?_⟩
 rw [List.length_append,List.length_singleton] at hi hi2
 rcases Nat.lt_or_ge i pn.length with h|h
 ·obtain ⟨a1,a2,a3⟩:=H.2 i h (by rw [H.1];exact h)
  refine ⟨a1,?_,?_⟩
  ·rw [List.getElem_append_left h];exact a2
  ·rw [List.getElem_append_left (by rw [H.1];exact h),a3]
   simp only [List.getElem_append_left h]
 ·obtain rfl:i=pn.length:=by omega
  refine ⟨h1,?_,?_⟩
  ·simpa using h2
  ·have e1:(p ++ [L[pn.length].l[n]])[pn.length]'(by rw [List.length_append,H.1,List.length_singleton];omega)=L[pn.length].l[n]:=by
    rw [List.getElem_append_right (by rw [H.1];exact Nat.le_refl _)]
    simp
   rw [e1]
   simp
theorem z0R {l:List POption} (h:∀ y ∈ l,0≤y.cost∧y.cost≤2880):0≤sumC l∧sumC l≤2880 * l.length:=by
 induction l with
 | nil=>simp [sumC]
 | cons o l ih =>
  obtain ⟨c0,c1⟩:=h o (List.mem_cons_self ..)
  obtain ⟨d0,d1⟩:=ih fun y hy=>h y (List.mem_cons_of_mem _ hy)
  have e:sumC (o :: l)=o.cost+sumC l:=by simp [sumC]
  rw [e,List.length_cons]
  push_cast
  omega
noncomputable def z0S (x:PHarbour) (L:List (List POption)) (l p:List POption) (ch:List Nat) (st:BSt) (k:Nat):BSt:=if zK6 x p (l.getD k zJX)=true then srS x L (p ++ [l.getD k zJX]) (ch ++ [k]) st else st
set_option maxRecDepth 30000 in
theorem z0T (hb:Hp) (b:Nat) (x:DHarbour) (L:Sl (Sl DOption)) (cx:Sl (Sl (Sl (Sl Bool)))) (rs:Sl Int) (hL6:L.l.length≤6) (hLn:∀ l ∈ L.l,l.l.length≤90) (hLg:∀ l ∈ L.l,∀ y ∈ l.l,0≤y.cost∧y.cost≤2880∧Sz.sz (Con.con y)≤8)
  (hcx:con4 cx=z0K (cl x) L.l) (hrl:rs.l.length=L.l.length+1) (hrs:∀ i (hi:i < rs.l.length),rs.l[i]=zLs ((LL L).drop i)) (hrb:∀ i,0≤zLs ((LL L).drop i)∧zLs ((LL L).drop i)≤100000) :
  ∀ (f:Nat) (pn:List Nat) (p:List DOption) (cho be:Sl Int) (m:Int) (fo:Bool) (st:BSt) (h:Hp),SK hb h b x L cx rs be m fo→BSS st be m fo→cho.Ok (h.del b)→cho.l=zs pn→pn.length+f=L.l.length→PR L.l pn p →
   Cw jV 212 [.pointer (some ⟨b,0,none⟩),cho.val,.int .i64 (sumC (p.map Con.con))] h (fun k=>k=b) fun v h'=>∃ (be':Sl Int) (m':Int) (fo':Bool),SK hb h' b x L cx rs be' m' fo'∧BSS (srS (Con.con x) ((LL L).drop pn.length) (p.map Con.con) pn st) be' m' fo':=by
 intro f
 induction f using Nat.strongRecOn with
 | _ f ih =>
 intro pn p cho be m fo st h H hst hcho hcl hlen hp
 obtain ⟨q3,q5,q8,q12,q13,q14,q15,q16,q17⟩:=z0O H.bx
 have hx:=Enc.mono H.le H.ox
 have hLo:=H.oL.mono H.le
 have hLm:=hLo.max
 have rsk:=H.ors.mono H.le
 have cok:=hcho.mono z0P
 have hcll:cho.l.length=pn.length:=by rw [hcl,zAH]
 have hpl:=hp.1
 have hpm:∀ y ∈ p,0≤y.cost∧y.cost≤2880∧Sz.sz (Con.con y)≤8:=fun y hy=>by
  obtain ⟨i,hi,rfl⟩:=List.getElem_of_mem hy
  obtain ⟨a1,a2,a3⟩:=hp.2 i (by omega) hi
  rw [a3]
  exact hLg _ (List.getElem_mem a1) _ (List.getElem_mem a2)
 have hpc:0≤sumC (p.map Con.con)∧sumC (p.map Con.con)≤2880 * p.length:=by
  have:=z0R (l:=p.map (Con.con (α:=DOption))) fun y hy=>by
   obtain ⟨z,hz,rfl⟩:=List.mem_map.1 hy
   exact ⟨(hpm z hz).1,(hpm z hz).2.1⟩
  rwa [List.length_map] at this
 have hri:pn.length < rs.l.length:=by omega
 have hrii:(pn.length:Int) < rs.l.length:=by omega
 have hrv:=hrs _ hri
 have hrbb:=hrb pn.length
 have hwr:IntKind.i64.wrap (sumC (p.map (Con.con (α:=DOption)))+rs.l[pn.length])=sumC (p.map Con.con)+zLs ((LL L).drop pn.length):=by rw [hrv,zjz (by omega)]
 refine zlh (fun A W=>by simp) Tryz.func212 rfl rfl (by simp)  (fun k hk=>by rw [hk];exact H.nbx) fun W0 hW=>?_
 have own:W0.own b:=hW b rfl
 repeat' first|refine Wa ?_|(simp only [go_sem,jq,jj,jy,jv,jk,jx,hcll];try rfl)|refine Wb ?_|fail
 refine znv rfl ?_
 refine U_t [0,1,2,3,4,5,6,10,14,7,15,8,16,9,17,11,12,13,18,19] rfl ?_
 simp only [go_sem,jq,jj,jy,jv,jk,jx,q3,q5,q8,q12,q13,q14,q15,q16,q17,true_or,true_and,and_true,implies_true,rsk.some hri,atI rsk hri,hri,hrii,hwr,jW,jY]
 refine U_d ?_
 have hcut:=z0N (c:=sumC (p.map Con.con)+zLs ((LL L).drop pn.length)) hst
 refine zc9 rfl (fun hq=>?_) (fun hq=>?_)
 ·rw [hcut] at hq
  refine Wk ?_
  refine ⟨be,m,fo,H,?_⟩
  have hs:srS (Con.con x) ((LL L).drop pn.length) (p.map Con.con) pn st=st:=by
   cases hc:(LL L).drop pn.length with
   | nil=>rw [hc,zLs,Int.add_zero] at hq;rw [srS,if_pos hq]
   | cons l M=>rw [hc] at hq;rw [srS,if_pos hq]
  rw [hs]
  exact hst
 rw [hcut] at hq
 repeat' first|refine Wa ?_|(simp only [go_sem,jq,jj,jy,jv,jk,jx,q3,q5,q8,q12,q13,q14,q15,q16,q17,true_or,true_and,and_true,implies_true];try rfl)|refine Wb ?_|fail
 refine zc9 rfl (fun hy=>?_) (fun hy=>?_)
 ·have hy:pn.length=L.l.length:=by have:=eq_of_beq hy;omega
  have hnil:(LL L).drop pn.length=[]:=List.drop_of_length_le (by rw [LL,List.length_map];omega)
  rw [hnil,zLs,Int.add_zero] at hq
  have hs:srS (Con.con x) ((LL L).drop pn.length) (p.map Con.con) pn st=if zKk (Con.con x).crew (Con.con x).chart (Con.con x).fleet (zKE (p.map Con.con))=true then some (pn,sumC (p.map Con.con)) else st:=by
   rw [hnil,srS,if_neg (by rw [hq];exact Bool.false_ne_true)]
  rw [hs]
  refine Wk ?_
  refine zl0 (ι:=Nat) (fun k=>⟨[(0,true,.c (.v (.pointer (some ⟨b,0,none⟩)))),(1,true,.c (.v cho.val)),(2,true,.c (.v (.int .i64 (sumC (p.map (Con.con (α:=DOption))))))),(6,true,.c (.v (.int .i64 pn.length))),(7,true,.c (.s 0)),(45,true,.c (.v cho.val)),(46,true,.c (.v (.int .i64 pn.length))),(47,true,.c (.v (.int .i64 k)))],[(0,.row 84 4 k ((p.take k).flatMap Enc.enc))],h,1⟩) (fun k=>k≤pn.length) (fun k=>pn.length - k) 0 (Nat.zero_le _) [0] ?_ ?_
  ·simp only [go_sem,jq,jj,jy,jv,jk,jx,hcll]
   exact Gk
  intro k hk
  refine Wk ?_
  refine zc9 rfl (fun hd=>?_) (fun hd=>?_)
  ·have hlt:k < pn.length:=zjH hd
   have hltc:k < cho.l.length:=by omega
   have hlti:(k:Int) < cho.l.length:=by omega
   obtain ⟨a1,a2,a3⟩:=hp.2 k hlt (by omega)
   have a1i:(k:Int) < L.l.length:=by omega
   have a2i:(pn[k]:Int) < L.l[k].l.length:=by omega
   have hcv:cho.l[k]=((pn[k]:Nat):Int):=by simp only [hcl,zs,List.getElem_map]
   have hok1:=hLo.el a1
   have htk:p.take (k+1)=p.take k ++ [L.l[k].l[pn[k]]]:=by rw [List.take_succ_eq_append_getElem (by omega),a3]
   repeat' first|refine Wa ?_|(simp only [go_sem,jq,jj,jy,jv,jk,jx,q3,q5,q8,q12,q13,q14,q15,q16,q17,true_or,true_and,and_true,implies_true,zkv cok hltc,cok.some hltc,hltc,hlti,hcv,zku hLo a1,hLo.some a1,a1,a1i,zkC hok1 a2,Sl.Ok.some hok1 a2,a2,a2i,jW,jY,and_self];try rfl)|refine Wb ?_|fail
   refine ⟨by simp only [maxLen];omega,by omega,?_⟩
   refine Wk ?_
   refine ⟨k+1,[2],hlt,by omega,?_⟩
   refine Evs ?_
   rw [htk,List.flatMap_append]
   exact Gi (zjA hlt (by omega))
  have hge:=zjI hd
  obtain rfl:k=pn.length:=by omega
  rw [List.take_of_length_le (by omega)]
  have hpok:∀ y ∈ p,Enc.ok h y:=fun y hy=>by
   obtain ⟨i,hi,rfl⟩:=List.getElem_of_mem hy
   obtain ⟨a1,a2,a3⟩:=hp.2 i (by omega) hi
   rw [a3]
   exact Sl.Ok.el (hLo.el a1) a2
  refine zc6 ?_
  refine Evs ?_
  refine zOy 0 p rfl rfl hpl.symm rfl (by decide) hpok fun s h' e1 e2 e3 _ _=>?_
  have hes:Con.con s=p.map Con.con:=by rw [show Con.con s=s.l.map Con.con from rfl,e1]
  have hzs:Sz.sz (Con.con s)≤1048576:=by
   rw [hes]
   have:=zJY (l:=p.map (Con.con (α:=DOption))) (k:=8) fun y hy=>by
    obtain ⟨z,hz,rfl⟩:=List.mem_map.1 hy
    exact (hpm z hz).2.2
   rw [List.length_map] at this
   omega
  have hzc:Sz.sz (zKE (Con.con s))≤1048576:=zKI _ hzs
  have bx1:=(H.grow e3).bx
  obtain ⟨q3,q5,q8,q12,q13,q14,q15,q16,q17⟩:=z0O bx1
  refine Wk ?_
  refine znv rfl ?_
  refine U_t [0,5,10,15,1,6,11,2,7,12,3,8,13,4,9,14] rfl ?_
  simp only [go_sem,jq,jj,jy,jv,jk,jx,q3,q5,q8,q12,q13,q14,q15,q16,q17,true_or,true_and,and_true,implies_true]
  refine U_1 16 0 [14,9,4,13,8,3,12,7,2,11,6,1] rfl rfl ?_
  simp only [go_sem,jq,jj,jy,jv,jk,jx,q3,q5,q8,q12,q13,q14,q15,q16,q17,true_or,true_and,and_true,implies_true]
  refine zkj (z0F s h' e2 hzs) rfl ?_
  rintro v h2 le2 ⟨c2,rfl,ec2,okc2,mc2⟩
  have bx2:=(H.grow (Hp.le_trans e3 le2)).bx
  obtain ⟨q3,q5,q8,q12,q13,q14,q15,q16,q17⟩:=z0O bx2
  simp only [go_sem,jq,jj,jy,jv,jk,jx,q3,q5,q8,q12,q13,q14,q15,q16,q17,true_or,true_and,and_true,implies_true]
  refine U_1 17 0 [] rfl rfl ?_
  simp only [go_sem,jq,jj,jy,jv,jk,jx,q3,q5,q8,q12,q13,q14,q15,q16,q17,true_or,true_and,and_true,implies_true]
  refine zhF (fun _=>z0E x.crew x.chart x.fleet c2 _ (Enc.mono (Hp.le_trans e3 le2) hx.2.2.2.2) (Enc.mono (Hp.le_trans e3 le2) hx.2.1) (Sl.Ok.mono (Hp.le_trans e3 le2) hx.2.2.1) okc2 (by rw [ec2];exact hzc)) ?_
  refine Evs ?_
  refine U_d ?_
  have hcr:zKk (Con.con x).crew (Con.con x).chart (Con.con x).fleet (zKE (p.map Con.con))=zKk (Con.con x.crew) (Con.con x.chart) x.fleet.l (zKE (p.map Con.con)):=by
   rw [show (Con.con x).fleet=x.fleet.l from zu4 _];rfl
  rw [ec2,hes,zu4]
  refine zc9 rfl (fun hz=>?_) (fun hz=>?_)
  ·rw [if_pos (hcr.trans hz)]
   have H2:=H.grow (Hp.le_trans e3 le2)
   have hall:h2.ldL cho.val 1=some (cho.l.flatMap Enc.enc):=((cok.mono e3).mono le2).all (by decide)
   have hclm:cho.l.length≤6:=by omega
   first|refine zmR [0,0,0,2,0,0,1] rfl ?_|refine zmQ [0,0,0,2,0,0,1] rfl ?_|(refine zc3 ?_;first|refine zmR [0,0,0,2,0,0,1] rfl ?_|refine zmQ [0,0,0,2,0,0,1] rfl ?_)
   refine Evs ?_
   simp only [hall,Option.isSome_some,Option.getD_some,Nat.zero_add]
   refine ⟨trivial,fun u hu=>?_,by simp only [maxLen];omega,by omega,fun ad cap h3 P=>⟨.inl trivial,?_⟩⟩
   ·rw [znL] at hu
    obtain ⟨y,_,rfl⟩:=List.mem_map.1 hu
    rfl
   have P':Pub h2 3 (Enc.size Int) cho.l.length (cho.l.flatMap Enc.enc) ad cap h3:=P
   obtain ⟨R3,fr3,kp3⟩:=P'.row
   have H3:=H2.grow P'.le
   have rq:RowF 3 hb h3 b (Sl.mk ad cap cho.l):=⟨R3,fun g hg=>⟨zmx H2.le (fr3 g hg),fun e=>H2.nbx (by rw [← e];exact fr3 g hg)⟩⟩
   refine zLX (xs':=skC x L cx rs (Sl.mk ad cap cho.l) m fo) (by simp only [go_sem]) (by simp only [go_sem]) rfl rfl H3.bx (.inr own) (by simp [skC]) rfl ?_
   first|refine zmR [0,0,0,0,1] rfl ?_|refine zmQ [0,0,0,0,1] rfl ?_|(refine zc3 ?_;first|refine zmR [0,0,0,0,1] rfl ?_|refine zmQ [0,0,0,0,1] rfl ?_)
   refine Evs ?_
   refine ⟨.inl trivial,?_⟩
   refine zLX (xs':=skC x L cx rs (Sl.mk ad cap cho.l) (sumC (p.map Con.con)) fo) (by simp only [go_sem]) (by simp only [go_sem]) rfl rfl Hp.ins_same (.inr own) (by simp [skC]) rfl ?_
   first|refine zmR [0,0,0,1] rfl ?_|refine zmQ [0,0,0,1] rfl ?_|(refine zc3 ?_;first|refine zmR [0,0,0,1] rfl ?_|refine zmQ [0,0,0,1] rfl ?_)
   refine Evs ?_
   refine ⟨.inl trivial,?_⟩
   refine zLX (xs':=skC x L cx rs (Sl.mk ad cap cho.l) (sumC (p.map Con.con)) true) (by simp only [go_sem]) (by simp only [go_sem]) rfl rfl Hp.ins_same (.inr own) (by simp [skC]) rfl ?_
   rw [Hp.ins_ins,Hp.ins_ins]
   refine Wk ?_
   exact ⟨Sl.mk ad cap cho.l,_,true,SK.mk2 H3 H3.le rq,rfl,hcl,rfl⟩
  ·rw [if_neg (by rw [hcr,hz];exact Bool.false_ne_true)]
   refine Wk ?_
   exact ⟨be,m,fo,H.grow (Hp.le_trans e3 le2),hst⟩
 have hy:¬ (pn.length=L.l.length):=by have:=ne_of_beq_false hy;omega
 have hi:pn.length < L.l.length:=by omega
 have hii:(pn.length:Int) < L.l.length:=by omega
 refine zc5 ?_
 refine Evs ?_
 repeat' first|refine Wa ?_|(simp only [go_sem,jq,jj,jy,jv,jk,jx,q3,q5,q8,q12,q13,q14,q15,q16,q17,true_or,true_and,and_true,implies_true,zku hLo hi,hLo.some hi,hi,hii,jW,jY,and_self];try rfl)|refine Wb ?_|fail
 have hmem:L.l[pn.length] ∈ L.l:=List.getElem_mem hi
 have h90:=hLn _ hmem
 have hs:srS (Con.con x) ((LL L).drop pn.length) (p.map Con.con) pn st=(List.range L.l[pn.length].l.length).foldl (z0S (Con.con x) ((LL L).drop (pn.length+1)) (L.l[pn.length].l.map Con.con) (p.map Con.con) pn) st:=by
  rw [zMo hi] at hq ⊢
  rw [srS,if_neg (by rw [hq];exact Bool.false_ne_true),List.length_map]
  rfl
 rw [hs]
 refine zoe (ι:=Nat × Hp × Sl Int × Int × Bool) (fun i=>⟨[(0,true,.c (.v (.pointer (some ⟨b,0,none⟩)))),(1,true,.c (.v cho.val)),(2,true,.c (.v (.int .i64 (sumC (p.map (Con.con (α:=DOption))))))),(6,true,.c (.v (.int .i64 pn.length))),(103,true,.c (.v L.l[pn.length].val)),(104,true,.c (.v (.int .i64 L.l[pn.length].l.length))),(105,true,.c (.v (.int .i64 i.1)))],[],i.2.1,0⟩) (fun i=>i.1≤L.l[pn.length].l.length∧SK hb i.2.1 b x L cx rs i.2.2.1 i.2.2.2.1 i.2.2.2.2∧BSS ((List.range i.1).foldl (z0S (Con.con x) ((LL L).drop (pn.length+1)) (L.l[pn.length].l.map Con.con) (p.map Con.con) pn) st) i.2.2.1 i.2.2.2.1 i.2.2.2.2∧(h.del b).le (i.2.1.del b)) (fun i=>L.l[pn.length].l.length - i.1) (0,h,be,m,fo) ⟨Nat.zero_le _,H,hst,Hp.le_refl _⟩ [] ?_ ?_
 ·simp only [go_sem,jq,jj,jy,jv,jk,jx,hcll]
  exact Gk
 rintro ⟨n,hk,be1,m1,fo1⟩ ⟨hnl,H1,hB1,hdl⟩
 simp only at hnl H1 hB1 hdl
 obtain ⟨q3,q5,q8,q12,q13,q14,q15,q16,q17⟩:=z0O H1.bx
 have cdk:=hcho.mono hdl
 have cok1:=cdk.mono z0P
 have hLk:=H1.oL.mono H1.le
 refine Wk ?_
 refine zc9 rfl (fun hd=>?_) (fun hd=>?_)
 ·have hlt:=zjH hd
  have hlk:=hLk.el hi
  have hog:=hLg _ hmem _ (List.getElem_mem hlt)
  repeat' first|refine Wa ?_|(simp only [go_sem,jq,jj,jy,jv,jk,jx,zkC hlk hlt,Sl.Ok.some hlk hlt,hlt,jW];try rfl)|refine Wb ?_|fail
  refine zoe (ι:=Nat) (fun k=>⟨[(0,true,.c (.v (.pointer (some ⟨b,0,none⟩)))),(1,true,.c (.v cho.val)),(2,true,.c (.v (.int .i64 (sumC (p.map (Con.con (α:=DOption))))))),(6,true,.c (.v (.int .i64 pn.length))),(10,true,.c (.v (.int .i64 n))),(11,true,.c (.p 0 0)),(12,true,.c (.v (.bool (!((p.take k).any fun q=>cl x L.l[pn.length].l[n] q))))),(103,true,.c (.v L.l[pn.length].val)),(104,true,.c (.v (.int .i64 L.l[pn.length].l.length))),(105,true,.c (.v (.int .i64 n))),(110,true,.c (.v cho.val)),(111,true,.c (.v (.int .i64 pn.length))),(112,true,.c (.v (.int .i64 k)))],[(0,.box 84 [.v (.int .i64 L.l[pn.length].l[n].start),.v (.int .i64 L.l[pn.length].l[n].arr),.v (.int .i64 L.l[pn.length].l[n].cost),.v L.l[pn.length].l[n].pas.val])],hk,1⟩) (fun k=>k≤pn.length) (fun k=>pn.length - k) 0 (Nat.zero_le _) [0] ?_ ?_
  ·simp only [go_sem,jq,jj,jy,jv,jk,jx,hcll]
   exact Gk
  intro k hkk
  refine Wk ?_
  refine zc9 rfl (fun hdk=>?_) (fun hdk=>?_)
  ·have hltk:k < pn.length:=zjH hdk
   have hltc:k < cho.l.length:=by omega
   obtain ⟨a1,a2,a3⟩:=hp.2 k hltk (by omega)
   have hcv:cho.l[k]=((pn[k]:Nat):Int):=by simp only [hcl,zs,List.getElem_map]
   obtain ⟨c1,c2,c3,c4,c5⟩:=z0M hcx hi a1 hlt a2
   have ock:=H1.oc.mono H1.le
   have ock1:=ock.el c1
   have ock2:=Sl.Ok.el ock1 c2
   have ock3:=Sl.Ok.el ock2 c3
   have c1i:(pn.length:Int) < cx.l.length:=by omega
   have c2i:(k:Int) < cx.l[pn.length].l.length:=by omega
   have c3i:(n:Int) < cx.l[pn.length].l[k].l.length:=by omega
   have c4i:(pn[k]:Int) < cx.l[pn.length].l[k].l[n].l.length:=by omega
   repeat' first|refine Wa ?_|(simp only [go_sem,jq,jj,jy,jv,jk,jx,q3,q5,q8,q12,q13,q14,q15,q16,q17,true_or,true_and,and_true,implies_true,zkv cok1 hltc,cok1.some hltc,hltc,hcv,zku ock c1,ock.some c1,c1,c1i,zku ock1 c2,Sl.Ok.some ock1 c2,c2,c2i,zku ock2 c3,Sl.Ok.some ock2 c3,c3,c3i,znA ock3 c4,Sl.Ok.some ock3 c4,c4,c4i,c5,jW,jY,and_self];try rfl)|refine Wb ?_|fail
   refine zc9 rfl (fun hz=>?_) (fun hz=>?_)
   ·refine Wk ?_
    refine ⟨k+1,[0],hltk,by omega,?_⟩
    refine Evs ?_
    rw [zJP (by omega),a3,hz,Bool.or_true]
    exact Gi (zjA hltk (by omega))
   ·refine Wk ?_
    refine ⟨k+1,[0],hltk,by omega,?_⟩
    refine Evs ?_
    rw [zJP (by omega),a3,hz,Bool.or_false]
    exact Gi (zjA hltk (by omega))
  have hgek:=zjI hdk
  obtain rfl:k=pn.length:=by omega
  rw [List.take_of_length_le (by omega)]
  refine Wk ?_
  obtain ⟨o,ho⟩:∃ o,L.l[pn.length].l[n]=o:=⟨_,rfl⟩
  have hgd:(L.l[pn.length].l.map (Con.con (α:=DOption))).getD n zJX=Con.con o:=by simp [List.getD_eq_getElem?_getD,hlt,ho]
  have hfree:zK6 (Con.con x) (p.map Con.con) (Con.con o)=!(p.any fun q=>cl x o q):=by
   rw [zLK]
   congr 2
   funext q
   rw [cl,zK5]
  have hst:∀ st',z0S (Con.con x) ((LL L).drop (pn.length+1)) (L.l[pn.length].l.map Con.con) (p.map Con.con) pn st' n=if zK6 (Con.con x) (p.map Con.con) (Con.con o)=true then srS (Con.con x) ((LL L).drop (pn.length+1)) (p.map Con.con ++ [Con.con o]) (pn ++ [n]) st' else st':=fun st'=>by rw [z0S,hgd]
  have hpsn:=hp.snoc hi hlt
  rw [ho] at hog hpsn ⊢
  refine zc9 rfl (fun hf=>?_) (fun hf=>?_)
  ·have hsum:sumC ((p ++ [o]).map Con.con)=sumC (p.map Con.con)+o.cost:=by rw [List.map_append,List.map_cons,List.map_nil,zLj];rfl
   have hwc:IntKind.i64.wrap (sumC (p.map (Con.con (α:=DOption)))+o.cost)=sumC ((p ++ [o]).map Con.con):=by rw [hsum,zjz (by omega)]
   have hall:hk.ldL cho.val 1=some (cho.l.flatMap Enc.enc):=cok1.all (by decide)
   have hclm:cho.l.length≤6:=by omega
   refine Wk ?_
   refine zod (ι:=Hp × Sl Int × Int × Bool) (fun i=>⟨[(0,true,.c (.v (.pointer (some ⟨b,0,none⟩)))),(1,true,.c (.v cho.val)),(2,true,.c (.v (.int .i64 (sumC (p.map (Con.con (α:=DOption))))))),(6,true,.c (.v (.int .i64 pn.length))),(103,true,.c (.v L.l[pn.length].val)),(104,true,.c (.v (.int .i64 L.l[pn.length].l.length))),(105,true,.c (.v (.int .i64 n)))],[],i.1,0⟩) (fun i=>SK hb i.1 b x L cx rs i.2.1 i.2.2.1 i.2.2.2∧BSS ((List.range (n+1)).foldl (z0S (Con.con x) ((LL L).drop (pn.length+1)) (L.l[pn.length].l.map Con.con) (p.map Con.con) pn) st) i.2.1 i.2.2.1 i.2.2.2∧(h.del b).le (i.1.del b)) (fun _=>rfl) ?_ ?_
   ·refine znv rfl ?_
    refine U_t [0,2,4,7,8,9,10] rfl ?_
    simp only [go_sem,jq,jj,jy,jv,jk,jx,hwc]
    refine U_m 1 [5] ⟨?_,?_,trivial⟩
    ·refine U_b 1 0 [10,9,8] rfl rfl ?_
     simp only [go_sem,jq,jj,jy,jv,jk,jx,hwc]
     refine U_m 3 [5] ⟨?_,?_,trivial⟩
     ·refine U_b 3 0 [10,9,8] rfl rfl ?_
      simp only [go_sem,jq,jj,jy,jv,jk,jx,hwc]
      simp only [hall,Option.isSome_some,Option.getD_some]
      refine ⟨trivial,fun u hu=>?_,by simp only [maxLen];omega,by omega,?_⟩
      ·rw [znL] at hu
       obtain ⟨y,_,rfl⟩:=List.mem_map.1 hu
       rfl
      try simp only [go_sem,jq,jj,jy,jv,jk,jx,hwc]
      refine U_1 5 0 [10,9,8] rfl rfl ?_
      simp only [go_sem,jq,jj,jy,jv,jk,jx,hwc]
      refine U_1 6 2 [10,9,8] rfl rfl ?_
      simp only [go_sem,jq,jj,jy,jv,jk,jx,hwc]
      refine ⟨by simp only [maxLen];omega,by omega,fun ad cap h2 P=>?_⟩
      have P':Pub hk 3 (Enc.size Int) (cho.l ++ [(n:Int)]).length ((cho.l ++ [(n:Int)]).flatMap Enc.enc) ad cap h2:=by
       rw [List.length_append,List.flatMap_append];rw [Nat.zero_add] at P;exact P
      obtain ⟨R2,fr2,kp2⟩:=P'.row
      have H2:=H1.grow P'.le
      have rq:RowF 3 hb h2 b (Sl.mk ad cap (cho.l ++ [(n:Int)])):=⟨R2,fun g hg=>⟨zmx H1.le (fr2 g hg),fun e=>H1.nbx (by rw [← e];exact fr2 g hg)⟩⟩
      have h90:=hLn _ hmem
      have cok2:(Sl.mk ad cap (cho.l ++ [(n:Int)])).Ok (h2.del b):=RowAt.ok (s:=Sl.mk ad cap (cho.l ++ [(n:Int)])) (by decide) (rq.del) fun y hy=>by
       rcases List.mem_append.1 hy with hy|hy
       ·exact cok1.2.2.2.1 y hy
       ·rw [List.mem_singleton.1 hy];show I64 _;unfold I64;omega
      rw [show Value.slice ad (0+cho.l.length+1) cap=(Sl.mk ad cap (cho.l ++ [(n:Int)])).val from by simp only [Sl.val,List.length_append,List.length_singleton,Nat.zero_add]]
      try simp only [go_sem,jq,jj,jy,jv,jk,jx,hwc]
      refine U_1 11 1 [] rfl rfl ?_
      simp only [go_sem,jq,jj,jy,jv,jk,jx,hwc]
      try refine ⟨rfl,?_⟩
      refine zli (ih (f - 1) (by omega) (pn ++ [n]) (p ++ [o]) (Sl.mk ad cap (cho.l ++ [(n:Int)])) be1 m1 fo1 _ h2 H2 hB1 cok2 (by simp [hcl,zs]) (by rw [List.length_append,List.length_singleton];omega) hpsn) rfl (fun k hk=>by rw [hk];exact ⟨H2.nbx,.inr own⟩) ?_
      rintro v h6 kp ⟨be6,m6,fo6,H6,hB6⟩
      try simp only [go_sem,jq,jj,jy,jv,jk,jx]
      refine U_d ?_
      refine ⟨(h6,be6,m6,fo6),[],⟨H6,?_,Hp.le_trans hdl (Hp.le_trans (z0Q fun k o hk _=>P'.le k o hk) (z0Q kp))⟩,?_⟩
      ·simp only
       try rw [List.range_succ]
       rw [List.foldl_append,List.foldl_cons,List.foldl_nil,hst,if_pos (by rw [hfree];exact hf)]
       rw [show (pn ++ [n]).length=pn.length+1 by rw [List.length_append,List.length_singleton],List.map_append,List.map_cons,List.map_nil] at hB6
       exact hB6
      refine Evs ?_
      exact Gk
     ·refine U_b 5 0 [10,9,8] rfl rfl ?_
      simp only [go_sem,jq,jj,jy,jv,jk,jx,hwc]
      refine U_1 3 0 [10,9,8] rfl rfl ?_
      simp only [go_sem,jq,jj,jy,jv,jk,jx,hwc]
      simp only [hall,Option.isSome_some,Option.getD_some]
      refine ⟨trivial,fun u hu=>?_,by simp only [maxLen];omega,by omega,?_⟩
      ·rw [znL] at hu
       obtain ⟨y,_,rfl⟩:=List.mem_map.1 hu
       rfl
      try simp only [go_sem,jq,jj,jy,jv,jk,jx,hwc]
      refine U_1 6 2 [10,9,8] rfl rfl ?_
      simp only [go_sem,jq,jj,jy,jv,jk,jx,hwc]
      refine ⟨by simp only [maxLen];omega,by omega,fun ad cap h2 P=>?_⟩
      have P':Pub hk 3 (Enc.size Int) (cho.l ++ [(n:Int)]).length ((cho.l ++ [(n:Int)]).flatMap Enc.enc) ad cap h2:=by
       rw [List.length_append,List.flatMap_append];rw [Nat.zero_add] at P;exact P
      obtain ⟨R2,fr2,kp2⟩:=P'.row
      have H2:=H1.grow P'.le
      have rq:RowF 3 hb h2 b (Sl.mk ad cap (cho.l ++ [(n:Int)])):=⟨R2,fun g hg=>⟨zmx H1.le (fr2 g hg),fun e=>H1.nbx (by rw [← e];exact fr2 g hg)⟩⟩
      have h90:=hLn _ hmem
      have cok2:(Sl.mk ad cap (cho.l ++ [(n:Int)])).Ok (h2.del b):=RowAt.ok (s:=Sl.mk ad cap (cho.l ++ [(n:Int)])) (by decide) (rq.del) fun y hy=>by
       rcases List.mem_append.1 hy with hy|hy
       ·exact cok1.2.2.2.1 y hy
       ·rw [List.mem_singleton.1 hy];show I64 _;unfold I64;omega
      rw [show Value.slice ad (0+cho.l.length+1) cap=(Sl.mk ad cap (cho.l ++ [(n:Int)])).val from by simp only [Sl.val,List.length_append,List.length_singleton,Nat.zero_add]]
      try simp only [go_sem,jq,jj,jy,jv,jk,jx,hwc]
      refine U_1 11 1 [] rfl rfl ?_
      simp only [go_sem,jq,jj,jy,jv,jk,jx,hwc]
      try refine ⟨rfl,?_⟩
      refine zli (ih (f - 1) (by omega) (pn ++ [n]) (p ++ [o]) (Sl.mk ad cap (cho.l ++ [(n:Int)])) be1 m1 fo1 _ h2 H2 hB1 cok2 (by simp [hcl,zs]) (by rw [List.length_append,List.length_singleton];omega) hpsn) rfl (fun k hk=>by rw [hk];exact ⟨H2.nbx,.inr own⟩) ?_
      rintro v h6 kp ⟨be6,m6,fo6,H6,hB6⟩
      try simp only [go_sem,jq,jj,jy,jv,jk,jx]
      refine U_d ?_
      refine ⟨(h6,be6,m6,fo6),[],⟨H6,?_,Hp.le_trans hdl (Hp.le_trans (z0Q fun k o hk _=>P'.le k o hk) (z0Q kp))⟩,?_⟩
      ·simp only
       try rw [List.range_succ]
       rw [List.foldl_append,List.foldl_cons,List.foldl_nil,hst,if_pos (by rw [hfree];exact hf)]
       rw [show (pn ++ [n]).length=pn.length+1 by rw [List.length_append,List.length_singleton],List.map_append,List.map_cons,List.map_nil] at hB6
       exact hB6
      refine Evs ?_
      exact Gk
    ·refine U_b 5 0 [10,9,8] rfl rfl ?_
     simp only [go_sem,jq,jj,jy,jv,jk,jx,hwc]
     refine U_1 1 0 [10,9,8] rfl rfl ?_
     simp only [go_sem,jq,jj,jy,jv,jk,jx,hwc]
     refine U_1 3 0 [10,9,8] rfl rfl ?_
     simp only [go_sem,jq,jj,jy,jv,jk,jx,hwc]
     simp only [hall,Option.isSome_some,Option.getD_some]
     refine ⟨trivial,fun u hu=>?_,by simp only [maxLen];omega,by omega,?_⟩
     ·rw [znL] at hu
      obtain ⟨y,_,rfl⟩:=List.mem_map.1 hu
      rfl
     try simp only [go_sem,jq,jj,jy,jv,jk,jx,hwc]
     refine U_1 6 2 [10,9,8] rfl rfl ?_
     simp only [go_sem,jq,jj,jy,jv,jk,jx,hwc]
     refine ⟨by simp only [maxLen];omega,by omega,fun ad cap h2 P=>?_⟩
     have P':Pub hk 3 (Enc.size Int) (cho.l ++ [(n:Int)]).length ((cho.l ++ [(n:Int)]).flatMap Enc.enc) ad cap h2:=by
      rw [List.length_append,List.flatMap_append];rw [Nat.zero_add] at P;exact P
     obtain ⟨R2,fr2,kp2⟩:=P'.row
     have H2:=H1.grow P'.le
     have rq:RowF 3 hb h2 b (Sl.mk ad cap (cho.l ++ [(n:Int)])):=⟨R2,fun g hg=>⟨zmx H1.le (fr2 g hg),fun e=>H1.nbx (by rw [← e];exact fr2 g hg)⟩⟩
     have h90:=hLn _ hmem
     have cok2:(Sl.mk ad cap (cho.l ++ [(n:Int)])).Ok (h2.del b):=RowAt.ok (s:=Sl.mk ad cap (cho.l ++ [(n:Int)])) (by decide) (rq.del) fun y hy=>by
      rcases List.mem_append.1 hy with hy|hy
      ·exact cok1.2.2.2.1 y hy
      ·rw [List.mem_singleton.1 hy];show I64 _;unfold I64;omega
     rw [show Value.slice ad (0+cho.l.length+1) cap=(Sl.mk ad cap (cho.l ++ [(n:Int)])).val from by simp only [Sl.val,List.length_append,List.length_singleton,Nat.zero_add]]
     try simp only [go_sem,jq,jj,jy,jv,jk,jx,hwc]
     refine U_1 11 1 [] rfl rfl ?_
     simp only [go_sem,jq,jj,jy,jv,jk,jx,hwc]
     try refine ⟨rfl,?_⟩
     refine zli (ih (f - 1) (by omega) (pn ++ [n]) (p ++ [o]) (Sl.mk ad cap (cho.l ++ [(n:Int)])) be1 m1 fo1 _ h2 H2 hB1 cok2 (by simp [hcl,zs]) (by rw [List.length_append,List.length_singleton];omega) hpsn) rfl (fun k hk=>by rw [hk];exact ⟨H2.nbx,.inr own⟩) ?_
     rintro v h6 kp ⟨be6,m6,fo6,H6,hB6⟩
     try simp only [go_sem,jq,jj,jy,jv,jk,jx]
     refine U_d ?_
     refine ⟨(h6,be6,m6,fo6),[],⟨H6,?_,Hp.le_trans hdl (Hp.le_trans (z0Q fun k o hk _=>P'.le k o hk) (z0Q kp))⟩,?_⟩
     ·simp only
      try rw [List.range_succ]
      rw [List.foldl_append,List.foldl_cons,List.foldl_nil,hst,if_pos (by rw [hfree];exact hf)]
      rw [show (pn ++ [n]).length=pn.length+1 by rw [List.length_append,List.length_singleton],List.map_append,List.map_cons,List.map_nil] at hB6
      exact hB6
     refine Evs ?_
     exact Gk
   rintro ⟨h7,be7,m7,fo7⟩ ⟨H7,hB7,hd7⟩
   simp only at H7 hB7 hd7
   refine Wk ?_
   refine ⟨(n+1,h7,be7,m7,fo7),[],⟨hlt,H7,hB7,hd7⟩,by simp only;omega,?_⟩
   refine Evs ?_
   exact Gi (zjA hlt (by omega))
  ·refine Wk ?_
   refine ⟨(n+1,hk,be1,m1,fo1),[],⟨hlt,H1,?_,hdl⟩,by simp only;omega,?_⟩
   ·simp only
    rw [List.range_succ,List.foldl_append,List.foldl_cons,List.foldl_nil,hst,if_neg (by rw [hfree];exact fun e=>by rw [e] at hf;cases hf)]
    exact hB1
   refine Evs ?_
   exact Gi (zjA hlt (by omega))
 ·have hge:=zjI hd
  obtain rfl:n=L.l[pn.length].l.length:=by omega
  refine Wk ?_
  exact ⟨be1,m1,fo1,H1,hB1⟩
theorem zBP {q:DOption} {B:Nat} (hz:Sz.sz (Con.con q)≤B):q.pas.l.length≤B:=by
 have h2:Sz.sz (Con.con q)=Sz.sz (Con.con q.pas):=rfl
 rw [h2] at hz
 have:=zmv hz
 rwa [zmw] at this
theorem zMr (x:DHarbour) (a:Sl DCall) (h:Hp) (hx:Enc.ok h x) (ha:a.Ok h) (hz:a.l.length≤1048576):Ct jV 135 [x.v,a.val] h fun v h'=>∃ s:Sl (Sl DOption),v=s.val∧s.l.map (fun l=>l.l.map (Con.con (α:=DOption)))=zKs (Con.con x) a.l∧s.Ok h'∧Mine h h' s:=by
 have hl:=ha.max
 refine zdn (fun A W=>by simp) Tryz.func135 rfl rfl (by simp) fun W0=>?_
 refine Wk ?_
 refine zl0 (ι:=Nat × List (Sl DOption) × Hp) (fun i=>⟨[(2,true,.c (.p 0 0)),(4,true,.c (.v (.slice none 0 0))),(5,true,.c (.s 1)),(9,true,.c (.v a.val)),(10,true,.c (.v (.int .i64 a.l.length))),(11,true,.c (.v (.int .i64 i.1)))],[(0,.box 62 [.v (.int .i64 x.forecast.tide.mean),.v x.forecast.tide.parts.val,.v x.forecast.surges.val,.v x.chart.points.val,.v x.chart.segments.val,.v x.fleet.val,.v (.int .i64 x.regime.gap),.v (.bool x.regime.noMeet),.v (.int .i64 x.crew.tugs),.v (.int .i64 x.crew.pilots),.v (.int .i64 x.crew.rest),.v x.crew.moves.val]),(1,.row 93 1 i.2.1.length (i.2.1.flatMap Enc.enc))],i.2.2,2⟩) (fun i=>i.1≤a.l.length∧i.2.1.length=i.1∧i.2.1.map (fun l=>l.l.map (Con.con (α:=DOption)))=(a.l.take i.1).map (zy1 (Con.con x))∧(∀ y ∈ i.2.1,Enc.ok i.2.2 y)∧Mines h i.2.2 i.2.1∧h.le i.2.2) (fun i=>a.l.length - i.1) (0,[],h) ⟨Nat.zero_le _,rfl,rfl,fun y hy=>(by cases hy),Mines.nil,Hp.le_refl _⟩ [0,1] ?_ ?_
 ·refine Evs ?_
  exact Gk
 rintro ⟨k,acc,hk⟩ ⟨hkl,hal,hac,hacok,hacm,hle⟩
 simp only at hkl hal hac hacok hacm hle
 have hak:=ha.mono hle
 have hxk:Enc.ok hk x:=Enc.mono hle hx
 refine Wk ?_
 refine zc9 rfl (fun hd=>?_) (fun hd=>?_)
 ·have hlt:=zjH hd
  repeat' first|refine Wa ?_|(simp only [go_sem,jq,jj,jy,jv,jk,jx,zE7 hak hlt,hak.some hlt,hlt,jW];try rfl)|refine Wb ?_|fail
  refine zkj (zzc x a.l[k] _ hxk (hak.el hlt)) rfl ?_
  rintro v h2 le2 ⟨s,rfl,es,oks,ms⟩
  refine Wk ?_
  refine ⟨by simp only [maxLen];omega,by omega,?_⟩
  refine Wk ?_
  have hle2:=Hp.le_trans hle le2
  have hw:IntKind.i64.wrap ((k:Int)+1)=((k+1:Nat):Int):=zjA hlt (by omega)
  refine ⟨(k+1,acc ++ [s],h2),[0,4],⟨hlt,?_,?_,fun y hy=>?_,Mines.snoc hacm hacok le2 hle ms,hle2⟩,by simp only;omega,?_⟩
  ·show (acc ++ [s]).length=k+1
   rw [List.length_append,hal];rfl
  ·show (acc ++ [s]).map _=(a.l.take (k+1)).map _
   rw [List.map_append,hac,List.take_succ_eq_append_getElem hlt,List.map_append]
   congr 1
   exact congrArg (fun z=>[z]) es
  ·rcases List.mem_append.1 hy with hy|hy
   ·exact Enc.mono le2 (hacok y hy)
   ·rw [List.mem_singleton.1 hy];exact oks
  refine Evs ?_
  rw [hw]
  simp only [List.flatMap_append,List.length_append]
  exact Gk
 ·have hge:=zjI hd
  refine zc6 ?_
  refine Evs ?_
  refine zlE 1 acc rfl rfl rfl rfl (by decide) hacok h hle hacm fun q h' e2 e3 e4 e5=>?_
  refine Wk ?_
  refine ⟨q,rfl,?_,e3,e5⟩
  rw [e2,hac,List.take_of_length_le hge];rfl
theorem zMs (s:Sl DOption) (h:Hp) (hs:s.Ok h):Ct jV 136 [s.val] h fun v h'=>v=.agg #[.int .i64 (zJx (s.l.map Con.con)),.int .i64 0]∧h'=h:=by
 refine zdn (fun A W=>by simp) Tryz.func136 rfl rfl (by simp) fun W0=>?_
 repeat' first|refine Wa ?_|refine zhF (fun _=>zJz s _ hs) ?_|(simp only [go_sem,jq,jj,jy,jv,jk,jx];try rfl)|refine Wb ?_|fail
theorem zMt {x:PHarbour} {w:List POption→Int}:∀ {L:List (List POption)} {p:List POption} {ch:List Nat} {st:BSt} {r1:List Nat} {r2:Int},(∀ l ∈ L,l.length < 100)→(∀ y ∈ ch,y < 100)→(∀ r1 r2,st=some (r1,r2)→∀ y ∈ r1,y < 100)→srW x w L p ch st=some (r1,r2)→∀ y ∈ r1,y < 100
 | [],p,ch,st,r1,r2,hL,hch,hst,h=>by
  rw [srW] at h
  split at h
  ·exact hst _ _ h
  ·cases h;exact hch
 | l :: L,p,ch,st,r1,r2,hL,hch,hst,h=>by
  rw [srW] at h
  split at h
  ·exact hst _ _ h
  ·have hl:=hL l (List.mem_cons_self ..)
   have key:∀ (ks:List Nat) (st:BSt),(∀ k ∈ ks,k < 100)→(∀ r1 r2,st=some (r1,r2)→∀ y ∈ r1,y < 100)→∀ r1 r2,ks.foldl (fun st k=>if zK7 x p (l.getD k zJX)=true then srW x w L (p ++ [l.getD k zJX]) (ch ++ [k]) st else st) st=some (r1,r2)→∀ y ∈ r1,y < 100:=by
    intro ks
    induction ks with
    | nil=>intro st _ hs r1 r2 h;exact hs r1 r2 h
    | cons k ks ih =>
     intro st hks hs r1 r2 h
     rw [List.foldl_cons] at h
     refine ih _ (fun j hj=>hks j (List.mem_cons_of_mem _ hj)) (fun q1 q2 hq=>?_) r1 r2 h
     split at hq
     ·refine zMt (fun l hl=>hL l (List.mem_cons_of_mem _ hl)) (fun y hy=>?_) hs hq
      rcases List.mem_append.1 hy with hy|hy
      ·exact hch y hy
      ·rw [List.mem_singleton.1 hy];exact hks k (List.mem_cons_self ..)
     ·exact hs q1 q2 hq
   exact key _ st (fun k hk=>by have:=List.mem_range.1 hk;omega) hst r1 r2 h
set_option maxRecDepth 30000 in
theorem zMu (x:DHarbour) (L:Sl (Sl DOption)) (wfn:Nat) (cs:List Value) (w:List POption→Int) (h:Hp) (hx:Enc.ok h x) (hL:L.Ok h) (hR:zvl x.regime=true) (hL6:L.l.length≤6) (hLn:∀ l ∈ L.l,l.l.length≤90) (hLg:∀ l ∈ L.l,∀ y ∈ l.l,zBC (Con.con x.chart) x.fleet.l y.pas.l∧y.pas.l.length≤1000)
  (hw:∀ (s:Sl DOption) (h':Hp),s.Ok h'→h.le h'→s.l.length≤6→Ct jV wfn ([s.val] ++ cs) h' fun v h2=>v=.agg #[.int .i64 (w (s.l.map Con.con)),.int .i64 0]∧h2=h') :
  Ct jV 134 [x.v,L.val,.func (.func wfn) #[] cs.toArray] h fun v h'=>∃ (s:Sl Int) (c:Int) (fo:Bool),v=.tuple #[s.val,.agg #[.int .i64 c,.int .i64 0],.bool fo]∧(s.l,c,fo)=zLB (srW (Con.con x) w (LL L) [] [] none)∧s.Ok h'∧Mine h h' s:=by
 refine zdn (fun A W=>by simp) Tryz.func134 rfl rfl (by simp) fun W0=>?_
 refine zie rfl ?_
 refine Evs ?_
 refine zie rfl ?_
 refine Evs ?_
 refine zmE 2 rfl rfl fun g hg hown=>?_
 refine Evs ?_
 have P0:PV h (h.ins g (.cells (plC x L (.func (.func wfn) #[] cs.toArray) (Sl.mk none 0 []) (Sl.mk none 0 []) (Sl.mk none 0 []) 0 0 false).toArray 262 (0,0))) g x L (.func (.func wfn) #[] cs.toArray) (Sl.mk none 0 []) (Sl.mk none 0 []) (Sl.mk none 0 []) 0 0 false :=
  ⟨Hp.ins_le hg,hx,hL,hg,Hp.ins_same,⟨⟨Nat.le_refl _,Nat.zero_le _,.inl ⟨rfl,rfl,rfl⟩⟩,fun g hg=>(by cases hg)⟩,fun y hy=>(by cases hy),⟨⟨Nat.le_refl _,Nat.zero_le _,.inl ⟨rfl,rfl,rfl⟩⟩,fun g hg=>(by cases hg)⟩,⟨⟨Nat.le_refl _,Nat.zero_le _,.inl ⟨rfl,rfl,rfl⟩⟩,fun g hg=>(by cases hg)⟩,fun g hg=>(by cases hg),fun g hg=>(by cases hg),fun g hg=>(by cases hg)⟩
 first|refine zmR [0,1] rfl ?_|refine zmQ [0,1] rfl ?_|(refine zc3 ?_;first|refine zmR [0,1] rfl ?_|refine zmQ [0,1] rfl ?_)
 try simp only [go_sem,jq,jj,jy,jv,jk,jx]
 refine zli (zMq h g x L wfn cs w hR hL6 hLn hLg hw L.l.length [] (Sl.mk none 0 []) (Sl.mk none 0 []) (Sl.mk none 0 []) 0 0 false none _ P0 ⟨rfl,rfl,rfl,rfl⟩ (Nat.zero_add _) rfl rfl (fun y hy=>(by cases hy)) (fun y hy=>(by cases hy))) rfl (fun k hk=>⟨hk.2,.inl hk.1⟩) ?_
 rintro v h6 kp ⟨p6,c6,be6,m0,m1,fo6,H6,ep6,ec6,hB6⟩
 obtain ⟨q0,q12,q13,q14,q15,q16,q17,q19⟩:=zLW H6.bx
 refine Wk ?_
 refine znv rfl ?_
 refine U_t [0,4,8,1,5,9,2,6,10,3,7,11,12] rfl ?_
 simp only [go_sem,jq,jj,jy,jv,jk,jx,q0,q12,q13,q14,q15,q16,q17,q19,true_or,true_and,and_true,implies_true]
 refine U_1 13 0 [11,10,9] rfl rfl ?_
 simp only [go_sem,jq,jj,jy,jv,jk,jx,q0,q12,q13,q14,q15,q16,q17,q19,true_or,true_and,and_true,implies_true]
 refine U_t [14] rfl ?_
 simp only [go_sem,jq,jj,jy,jv,jk,jx,q0,q12,q13,q14,q15,q16,q17,q19,true_or,true_and,and_true,implies_true]
 refine U_d ?_
 refine Wk ?_
 have hB6:BS (srW (Con.con x) w (LL L) [] [] none) be6 m0 m1 fo6:=hB6
 have hz:m1=0∧(be6.l,m0,fo6)=zLB (srW (Con.con x) w (LL L) [] [] none)∧∀ y ∈ be6.l,I64 y:=by
  cases hr:srW (Con.con x) w (LL L) [] [] none with
  | none =>
   rw [hr] at hB6
   obtain ⟨b1,b2,b3,b4⟩:=hB6
   exact ⟨b4,by rw [b1,b2,b3];rfl,fun y hy=>by rw [b2] at hy;cases hy⟩
  | some r =>
   obtain ⟨r1,r2⟩:=r
   have hlt:=zMt (fun l hl=>by
    obtain ⟨z,hz,rfl⟩:=List.mem_map.1 hl
    rw [List.length_map];exact Nat.lt_of_le_of_lt (hLn z hz) (by decide)) (fun y hy=>(by cases hy)) (fun _ _ h=>by cases h) hr
   rw [hr] at hB6
   obtain ⟨b1,b2,b3,b4⟩:=hB6
   refine ⟨b4,by rw [b1,b2,b3];rfl,fun y hy=>?_⟩
   rw [b2] at hy
   obtain ⟨z,hz,rfl⟩:=List.mem_map.1 hy
   have:=hlt z hz
   show I64 _;unfold I64;omega
 obtain ⟨rfl,hz,hI⟩:=hz
 exact ⟨be6,m0,fo6,rfl,hz,H6.rb.1.ok (by decide) hI,zBe H6.rb.1 fun g hg=>(H6.rb.2 g hg).1⟩
theorem zMv {x:DHarbour} {a:List DCall} {L:Sl (Sl DOption)} (h:L.l.map (fun l=>l.l.map (Con.con (α:=DOption)))=zKs (Con.con x) a):(∀ l ∈ L.l,l.l.length≤90)∧(∀ l ∈ L.l,∀ y ∈ l.l,zBC (Con.con x.chart) x.fleet.l y.pas.l∧y.pas.l.length≤1000)∧∀ l ∈ L.l,∀ y ∈ l.l,0≤y.cost∧y.cost≤2880∧Sz.sz (Con.con y)≤8:=by
 have key:∀ l ∈ L.l,∃ c ∈ a,l.l.map (Con.con (α:=DOption))=zy1 (Con.con x) c:=fun l hl=>by
  have:l.l.map (Con.con (α:=DOption)) ∈ zKs (Con.con x) a:=by rw [← h];exact List.mem_map.2 ⟨l,hl,rfl⟩
  rw [zKs] at this
  obtain ⟨c,hc,e⟩:=List.mem_map.1 this
  exact ⟨c,hc,e.symm⟩
 have mem:∀ l ∈ L.l,∀ y ∈ l.l,∃ c,Con.con y ∈ zy1 (Con.con x) c:=fun l hl y hy=>by
  obtain ⟨c,_,e⟩:=key l hl
  exact ⟨c,by rw [← e];exact List.mem_map.2 ⟨y,hy,rfl⟩⟩
 refine ⟨fun l hl=>?_,fun l hl y hy=>?_,fun l hl y hy=>?_⟩
 ·obtain ⟨c,_,e⟩:=key l hl
  have:=(zzi (x:=Con.con x) (a:=c)).1
  rw [← e,List.length_map] at this
  omega
 ·obtain ⟨c,hc⟩:=mem l hl y hy
  have h1:=zBK _ hc
  rw [zLG] at h1
  have h2:=(zzi (x:=Con.con x) (a:=c)).2 _ hc
  refine ⟨h1,?_⟩
  have h3:=zBP h2
  omega
 ·obtain ⟨c,hc⟩:=mem l hl y hy
  have h1:=zzu _ hc
  exact ⟨h1.1,h1.2,(zzi (x:=Con.con x) (a:=c)).2 _ hc⟩
set_option maxRecDepth 30000 in
theorem zMw (x:DHarbour) (a:Sl DCall) (h:Hp) (hx:Enc.ok h x) (ha:a.Ok h):Ct jV 58 [x.v,a.val] h fun v h'=>∃ s:Sl Int,v=.tuple #[s.val,.int .i64 (zLC (Con.con x) (Con.con a)).2.1,.bool (zLC (Con.con x) (Con.con a)).2.2]∧Con.con s=(zLC (Con.con x) (Con.con a)).1∧s.Ok h'∧Mine h h' s:=by
 rw [zJK]
 refine zdn (fun A W=>by simp) Tryz.func58 rfl rfl (by simp) fun W0=>?_
 repeat' first|refine Wa ?_|refine zhF (fun _=>zJL x a _ hx ha) ?_|(simp only [go_sem,jq,jj,jy,jv,jk,jx];try rfl)|refine Wb ?_|fail
 rw [zJK]
 refine zc9 rfl (fun hc=>?_) (fun hc=>?_)
 ·rw [Bool.not_eq_true'] at hc
  have hF:zLC (Con.con x) a.l=([],0,false):=by rw [zLC,if_neg (by rw [hc];exact Bool.false_ne_true)]
  rw [hF]
  refine Wk ?_
  exact ⟨⟨none,0,[]⟩,rfl,rfl,zmo,Mine.nil⟩
 rw [Bool.not_eq_false'] at hc
 have h6:=zKv hc
 have hz:a.l.length≤1048576:=by omega
 obtain ⟨hR,hC⟩:=zLN hc
 have hR:zvl x.regime=true:=hR
 rw [zLC,if_pos hc]
 have z2:(0:Int) < ((2:Nat):Int):=by decide
 have hF:∀ (L:Sl (Sl DOption)) (eL:L.l.map (fun l=>l.l.map (Con.con (α:=DOption)))=zKs (Con.con x) a.l) (s:Sl Int) (c:Int) (fo:Bool),(s.l,c,fo)=zLB (srW (Con.con x) zJx (LL L) [] [] none)→zLB (srI (Con.con x) (zKs (Con.con x) a.l) [] [] none)=(s.l,c,fo):=fun L eL s c fo es=>by
  have hL:LL L=zKs (Con.con x) a.l:=eL
  rw [es,hL,zLR (by rw [List.length_nil,zKu];omega) (fun y hy=>(by cases hy)) fun l hl y hy=>?_]
  rw [zKs] at hl
  obtain ⟨d,_,rfl⟩:=List.mem_map.1 hl
  exact zzu y hy
 refine Wk ?_
 refine znv rfl ?_
 refine U_t [0,1,2] rfl ?_
 refine Evs ?_
 refine U_m 3 [9] ⟨?_,?_,trivial⟩
 ·refine U_b 3 0 [0] rfl rfl ?_
  refine Evs ?_
  refine zkj (zMr x a _ hx ha hz) rfl ?_
  rintro v h1 le1 ⟨L,rfl,eL,okL,mL⟩
  try simp only [go_sem,jq,jj,jy,jv,jk,jx]
  refine U_m 4 [9] ⟨?_,?_,trivial⟩
  ·refine U_b 4 0 [] rfl rfl ?_
   refine Evs ?_
   obtain ⟨g1,g2,g3⟩:=zMv eL
   have hlL:L.l.length=a.l.length:=by have:=congrArg List.length eL;rwa [List.length_map,zKu] at this
   refine zkj (zMu x L 136 [] zJx _ (Enc.mono le1 hx) okL hR (by omega) g1 g2 (fun s h' hs _ _=>zMs s h' hs)) rfl ?_
   rintro v h2 le2 ⟨s,c,fo,rfl,es,oks,ms⟩
   try simp only [go_sem,jq,jj,jy,jv,jk,jx]
   refine U_t [5,6,7,8] rfl ?_
   refine Evs ?_
   refine U_1 9 0 [8,7,6] rfl rfl ?_
   refine Evs ?_
   refine U_t [10] rfl ?_
   refine Evs ?_
   refine U_1 11 0 [8] rfl rfl ?_
   refine Evs ?_
   refine U_t [12] rfl ?_
   refine Evs ?_
   refine U_d ?_
   refine Wk ?_
   refine znv rfl ?_
   refine U_t [0,1,3,2,4,5,6] rfl ?_
   simp only [go_sem,jq,jj,jy,jv,jk,jx,Int.toNat_zero,Nat.zero_mul,Nat.zero_add,Int.le_refl,z2,implies_true,true_and,and_true,and_self]
   refine U_d ?_
   refine Wk ?_
   rw [hF L eL s c fo es]
   exact ⟨s,rfl,con_ints,oks,ms.back le1⟩
  ·refine U_b 9 0 [0] rfl rfl ?_
   refine Evs ?_
   refine U_1 4 0 [] rfl rfl ?_
   refine Evs ?_
   obtain ⟨g1,g2,g3⟩:=zMv eL
   have hlL:L.l.length=a.l.length:=by have:=congrArg List.length eL;rwa [List.length_map,zKu] at this
   refine zkj (zMu x L 136 [] zJx _ (Enc.mono le1 hx) okL hR (by omega) g1 g2 (fun s h' hs _ _=>zMs s h' hs)) rfl ?_
   rintro v h2 le2 ⟨s,c,fo,rfl,es,oks,ms⟩
   try simp only [go_sem,jq,jj,jy,jv,jk,jx]
   refine U_t [5,6,7,8,10] rfl ?_
   refine Evs ?_
   refine U_1 11 0 [8] rfl rfl ?_
   refine Evs ?_
   refine U_t [12] rfl ?_
   refine Evs ?_
   refine U_d ?_
   refine Wk ?_
   refine znv rfl ?_
   refine U_t [0,1,3,2,4,5,6] rfl ?_
   simp only [go_sem,jq,jj,jy,jv,jk,jx,Int.toNat_zero,Nat.zero_mul,Nat.zero_add,Int.le_refl,z2,implies_true,true_and,and_true,and_self]
   refine U_d ?_
   refine Wk ?_
   rw [hF L eL s c fo es]
   exact ⟨s,rfl,con_ints,oks,ms.back le1⟩
 ·refine U_b 9 0 [1,0] rfl rfl ?_
  refine Evs ?_
  refine U_1 3 0 [0] rfl rfl ?_
  refine Evs ?_
  refine zkj (zMr x a _ hx ha hz) rfl ?_
  rintro v h1 le1 ⟨L,rfl,eL,okL,mL⟩
  try simp only [go_sem,jq,jj,jy,jv,jk,jx]
  refine U_1 4 0 [] rfl rfl ?_
  refine Evs ?_
  obtain ⟨g1,g2,g3⟩:=zMv eL
  have hlL:L.l.length=a.l.length:=by have:=congrArg List.length eL;rwa [List.length_map,zKu] at this
  refine zkj (zMu x L 136 [] zJx _ (Enc.mono le1 hx) okL hR (by omega) g1 g2 (fun s h' hs _ _=>zMs s h' hs)) rfl ?_
  rintro v h2 le2 ⟨s,c,fo,rfl,es,oks,ms⟩
  try simp only [go_sem,jq,jj,jy,jv,jk,jx]
  refine U_t [5,6,7,8,10] rfl ?_
  refine Evs ?_
  refine U_1 11 0 [8] rfl rfl ?_
  refine Evs ?_
  refine U_t [12] rfl ?_
  refine Evs ?_
  refine U_d ?_
  refine Wk ?_
  refine znv rfl ?_
  refine U_t [0,1,3,2,4,5,6] rfl ?_
  simp only [go_sem,jq,jj,jy,jv,jk,jx,Int.toNat_zero,Nat.zero_mul,Nat.zero_add,Int.le_refl,z2,implies_true,true_and,and_true,and_self]
  refine U_d ?_
  refine Wk ?_
  rw [hF L eL s c fo es]
  exact ⟨s,rfl,con_ints,oks,ms.back le1⟩
end Go.Proofs.YtbkaaakphpbmiaaGreat
