/- What functions of the given program compute, as contracts. -/
import Derived.Test.YtdejfjdbcggilaaGreatXGFnRefusals12
import Derived.Test.YtdejfjdbcggilaaGreatXGFnRefusals6
import Derived.Test.YtdejfjdbcggilaaGreatXGFnRefusals7
import Derived.Test.YtdejfjdbcggilaaGreatXGFnRefusals9
set_option linter.unusedVariables false
set_option linter.unusedSimpArgs false
set_option maxRecDepth 4000
open Nat renaming reduceAdd → jq, reduceMul → jj, reduceBEq → jy, reduceLeDiff → jv, reduceLT → jk, reduceEqDiff → jx
open Bool renaming or_eq_false_iff → jp, or_eq_true → jQ, and_eq_true → jJ
open Int renaming toNat_natCast → jW, natCast_nonneg → jY
open Go.Proofs.Tryz renaming prog → jV
namespace Go.Proofs.YtdejfjdbcggilaaGreat
open Go Go.SL
set_option maxHeartbeats 1000000
def zJb (c:zOv) (f:List DShip) (l:List DPassage):Prop:=0 < l.length∧zDZ c l=true∧∀ i,i < l.length→pOk c f l i=true
theorem zJc {l:List Int} {x:Int} {i:Nat} (hi:i < l.length):(l ++ [x]).getD i 0=l.getD i 0:=by rw [List.getD_eq_getElem?_getD,List.getElem?_append_left hi,← List.getD_eq_getElem?_getD]
theorem zJd {l:List Int} {x:Int} {k:Nat} (h:l.length=k):(l ++ [x]).getD k 0=x:=by subst h;simp only [List.getD_eq_getElem?_getD,List.getElem?_concat_length,Option.getD_some]
theorem zJe {w:List Bool} {m:List Int} {u:List (List DWindow)} {st:Int}:∀ {k:Nat} {l:List Int},slK w m u st k=some l→∀ i,i < k→IntKind.i64.wrap (l.getD i 0+m.getD i 0)≤l.getD (i+1) 0
 | 0,_,_,i,hi=>absurd hi (Nat.not_lt_zero i)
 | k+1,l,h,i,hi=>by
  rw [slK] at h
  obtain ⟨p,hp,h⟩:=Option.bind_eq_some_iff.1 h
  have hl:=zFr hp
  unfold zFm at h
  dsimp only at h
  split at h
  ·cases h
  ·rename_i hc
   rw [not_or] at hc
   have e:=Option.some.inj h
   rw [← e]
   rcases Nat.lt_or_ge i k with hik|hik
   ·rw [zJc (by omega),zJc (by omega)]
    exact zJe hp i hik
   ·obtain rfl:i=k:=by omega
    rw [zJc (by omega),zJd hl]
    exact zFk (by omega)
theorem zJf {g:List DSegment} {a:Int} {r:List Int}:∀ {k:Nat} {l:List Int},ptsK g a r k=some l→∀ i,i < k→l.getD (i+1) 0=zCZ (g.getD (r.getD i 0).toNat dG) (l.getD i 0)∧0≤zCZ (g.getD (r.getD i 0).toNat dG) (l.getD i 0)
 | 0,_,_,i,hi=>absurd hi (Nat.not_lt_zero i)
 | k+1,l,h,i,hi=>by
  obtain ⟨p,hp,hs⟩:=zDv h
  have hl:=zDw hp
  obtain ⟨_,h2,_,e⟩:=zDt hs
  rw [zDz hl] at h2 e
  rw [e]
  rcases Nat.lt_or_ge i k with hik|hik
  ·rw [zJc (by omega),zJc (by omega)]
   exact zJf hp i hik
  ·obtain rfl:i=k:=by omega
   rw [zJd hl,zJc (by omega)]
   exact ⟨rfl,h2⟩
theorem zJg {s:DSegment} {p:Int} (h:0≤zCZ s p):(p=s.a∧zCZ s p=s.b)∨(p ≠ s.a∧p=s.b∧zCZ s p=s.a):=by
 unfold zCZ at h ⊢
 split at h
 ·rename_i h1;exact .inl ⟨h1,by rw [if_pos h1]⟩
 ·rename_i h1
  split at h
  ·rename_i h2;exact .inr ⟨h1,h2,by rw [if_neg h1,if_pos h2]⟩
  ·exact absurd h (by decide)
theorem zJh {c:zOv} {ship:Int} {s:DShip} {pts r st:List Int} {k i:Nat} (hi:i < k):(pasL c ship s pts r st k).getD i dQ=zEj c ship s pts r st i:=by
 rw [pasL,List.getD_eq_getElem?_getD,List.getElem?_map,List.getElem?_range hi];rfl
theorem zJi {x:DHarbour} {a:DCall} {r:List Int} (hok:zAJ (Con.con x) a=true) (hcv:cvOk (Con.con x) a r=true) {st:Int} (hst:a.ready≤st∧st≤a.due) (h2:(zFH (Con.con x) a r st).2=true):zJb (Con.con x.chart) x.fleet.l (zFH (Con.con x) a r st).1.pas:=by
 obtain ⟨_,hC,⟨hsi,hsh,hso⟩,hs0,hs1,_,_,_,_,_,hr0,hr1,hr2,hr3⟩:=zFA hok
 have hFl:zAl x.fleet.l=true:=by
  rw [zAJ,zAp,jJ,jJ,jJ,jJ,jJ,show (Con.con x).fleet=x.fleet.l from zz2 _] at hok
  exact hok.1.1.1.2
 have hv:voOk (Con.con x.forecast) (Con.con x.chart) (zFz (Con.con x) a) a.src r=true:=by
  rw [cvOk,jJ] at hcv;exact hcv.2
 have hR:zDJ (Con.con x.chart) a.src r=true:=by
  rw [zFB hok,jJ] at hv;exact hv.1
 have hlen0:0 < r.length:=by
  rw [zFB hok,jJ,decide_eq_true_eq] at hv;exact hv.2
 obtain ⟨_,hin,pl,hptl,hpk,hplen,hpx⟩:=zDN hR
 have hrl:r.length≤8:=by have:=zEO hC (zDx hpk) hpx;omega
 have hrg:∀ i,i < r.length→0≤r.getD i 0∧r.getD i 0 < (Con.con x.chart).segments.length:=fun i hi=>by
  rw [iget hi];exact zDO hpk (Nat.le_refl _) i hi hi
 have hmi:∀ i,i < (minL (Con.con x.chart) (zFz (Con.con x) a) r r.length).length→1≤(minL (Con.con x.chart) (zFz (Con.con x) a) r r.length).getD i 0∧(minL (Con.con x.chart) (zFz (Con.con x) a) r r.length).getD i 0≤480:=fun i hi=>by
  rw [minL,rmap_len] at hi
  rw [zGo hi]
  exact zGg (zGh hC (by have:=hrg i hi;omega))
 have hml:(minL (Con.con x.chart) (zFz (Con.con x) a) r r.length).length=r.length:=by rw [minL,rmap_len]
 unfold zFH at h2 ⊢
 rw [show (Con.con x).forecast=Con.con x.forecast from rfl,show (Con.con x).chart=Con.con x.chart from rfl] at h2 ⊢
 cases hs:zFx (Con.con x.forecast) (Con.con x.chart) (zFz (Con.con x) a) a.src r st with
 | none=>rw [hs] at h2;cases h2
 | some l =>
  rw [hs] at h2
  dsimp only at h2 ⊢
  have h3:=hs
  rw [zFx,if_pos hv,zFn] at h3
  split at h3
  ·rw [show (zFh (Con.con x.forecast) (Con.con x.chart) (zFz (Con.con x) a) r r.length).length=r.length by rw [zFh,rmap_len]] at h3
   obtain ⟨h4,h5,h6⟩:=zGl (by omega) hmi (by omega) h3
   have hpo:arOk (Con.con x.chart) (zFz (Con.con x) a) r l=true:=by
    rw [arOk,jJ,jJ,jJ,Bool.not_eq_true',decide_eq_false_iff_not,decide_eq_true_eq,decide_eq_true_eq,hsh]
    refine ⟨⟨⟨?_,hso⟩,hlen0⟩,by omega⟩
    rw [zDU,if_pos ⟨hC,fun i hi=>by
     rw [rmOk,decide_eq_true_eq];exact hrg i hi⟩]
    have:=zGp hC (fun i hi=>zDO hpk (Nat.le_refl _) i hi hi) hrl (k:=r.length) (Nat.le_refl _)
    rw [List.take_length] at this
    omega
   have hA:zEh (Con.con x.chart) (zFz (Con.con x) a) r l=IntKind.i64.wrap (l.getD (r.length - 1) 0+zAU (zFz (Con.con x) a) ((Con.con x.chart).segments.getD (r.getD (r.length - 1) 0).toNat dG)):=by
    have h7:=h5 (r.length - 1) (Nat.le_refl _)
    rw [zEh,if_pos hpo,if_pos (by rw [In,jJ,decide_eq_true_eq,decide_eq_true_eq];exact h7)]
   have hle:zEh (Con.con x.chart) (zFz (Con.con x) a) r l≤2880:=of_decide_eq_true h2
   have hstep:∀ i,i+1 < r.length→IntKind.i64.wrap (l.getD i 0+zAU (zFz (Con.con x) a) ((Con.con x.chart).segments.getD (r.getD i 0).toNat dG))≤l.getD (i+1) 0:=fun i hi=>by
    have:=zJe h3 i (by omega)
    rwa [zGo (by omega)] at this
   have hfin:∀ i,i < r.length→IntKind.i64.wrap (l.getD i 0+zAU (zFz (Con.con x) a) ((Con.con x.chart).segments.getD (r.getD i 0).toNat dG))≤2880:=fun i hi=>by
    rcases Nat.lt_or_ge (i+1) r.length with h8|h8
    ·have:=hstep i h8
     have:=h5 (i+1) (by omega)
     omega
    ·obtain rfl:i=r.length - 1:=by omega
     rw [hA] at hle;exact hle
   show zJb _ _ (zEl (Con.con x.chart) a.ship (zFz (Con.con x) a) a.src r l)
   have hP:zEl (Con.con x.chart) a.ship (zFz (Con.con x) a) a.src r l=pasL (Con.con x.chart) a.ship (zFz (Con.con x) a) pl r l r.length:=by
    rw [zEl,if_pos,hptl]
    ·rfl
    ·refine ⟨?_,fun i hi=>?_⟩
     ·rw [zEk,jJ,jJ,decide_eq_true_eq,hsh]
      exact ⟨⟨hR,hso⟩,by omega⟩
     ·rw [In,jJ,decide_eq_true_eq,decide_eq_true_eq];exact h5 i (by omega)
   rw [hP]
   refine ⟨by rw [zEo];exact hlen0,?_,fun i hi=>?_⟩
   ·rw [zDZ,jJ,decide_eq_true_eq]
    refine ⟨hC,fun i hi=>?_⟩
    rw [zEo] at hi
    rw [chOk,chIn,chTo,zJh hi,zJh hlen0,zJh (show i - 1 < r.length by omega)]
    simp only [jJ,jQ,decide_eq_true_eq]
    refine ⟨⟨rfl,hrg i hi⟩,?_⟩
    rcases Nat.eq_zero_or_pos i with h0|h0
    ·exact .inl h0
    ·refine .inr ⟨?_,?_⟩
     ·have e1:=zJf hpk i hi
      have e2:=zJf hpk (i - 1) (by omega)
      rw [show i - 1+1=i by omega] at e2
      have f1:=zJg e1.2
      have f2:=zJg e2.2
      show (if (pl.getD i 0 == ((Con.con x.chart).segments.getD (r.getD i 0).toNat dG).a)=true then _ else _:Int × Int).1=(if (pl.getD (i - 1) 0 == ((Con.con x.chart).segments.getD (r.getD (i - 1) 0).toNat dG).a)=true then _ else _:Int × Int).2
      have g1:(zAT (Con.con x.chart) (zEj (Con.con x.chart) a.ship (zFz (Con.con x) a) pl r l i)).1=pl.getD i 0:=by
       unfold zAT zEj
       dsimp only
       rcases f1 with f1|f1
       ·rw [if_pos (by rw [beq_iff_eq];exact f1.1)];exact f1.1.symm
       ·rw [if_neg (by rw [beq_iff_eq];exact f1.1)];exact f1.2.1.symm
      have g2:(zAT (Con.con x.chart) (zEj (Con.con x.chart) a.ship (zFz (Con.con x) a) pl r l (i - 1))).2=pl.getD i 0:=by
       unfold zAT zEj
       dsimp only
       rcases f2 with f2|f2
       ·rw [if_pos (by rw [beq_iff_eq];exact f2.1)];rw [e2.1,f2.2]
       ·rw [if_neg (by rw [beq_iff_eq];exact f2.1)];rw [e2.1,f2.2.2]
      exact g1.trans g2.symm
     ·have:=hstep (i - 1) (by omega)
      rw [show i - 1+1=i by omega] at this
      exact this
   ·rw [zEo] at hi
    rw [pOk,zJh hi,zAW,hC,hFl,Bool.true_and,Bool.true_and,zAV,jJ,decide_eq_true_eq,decide_eq_true_eq]
    refine ⟨⟨hs0,hs1,(hrg i hi).1,(hrg i hi).2,(h5 i (by omega)).1,(h5 i (by omega)).2,hfin i hi⟩,?_⟩
    show IntKind.i64.wrap (_+zAU (zFz (Con.con x) a) _)=IntKind.i64.wrap (_+zAU (x.fleet.l.getD a.ship.toNat dH) _)
    rw [hsh,hget hsi]
    rfl
  ·cases h3
theorem zJj {x:DHarbour} {a:DCall}:∀ y ∈ zFU (Con.con x) a,zJb (Con.con x.chart) x.fleet.l y.pas:=by
 cases hok:zAJ (Con.con x) a with
 | false=>rw [zFY hok];intro y hy;cases hy
 | true =>
  rw [zFU,if_pos hok]
  obtain ⟨_,_,_,_,_,_,_,_,_,_,hr0,hr1,hr2,hr3⟩:=zFA hok
  cases hb:zE5 (Con.con x).chart a.src a.dst with
  | none=>intro y hy;cases hy
  | some r =>
   dsimp only
   exact zGn hr0 hr3 (fun s h1 h2 h3=>zJi hok (zFX hok hb) ⟨h1,h2⟩ h3) (Int.le_refl _) (fun y hy=>by cases hy)
theorem zO0 {x:DHarbour} {a:DCall} {o:POption} (h:zOX (Con.con x) a o=true):zJb (Con.con x.chart) x.fleet.l o.pas:=by
 cases hq:(zAJ (Con.con x) a && In o.start a.ready a.due && cvOk (Con.con x) a (o.pas.map (·.seg)) && (zFH (Con.con x) a (o.pas.map (·.seg)) o.start).2) with
 | false=>rw [zOX,zOU hq] at h;exact absurd h Bool.false_ne_true
 | true =>
  rw [zOX,zOT,if_pos hq,jJ] at h
  rw [jJ,jJ,jJ,In,jJ,decide_eq_true_eq,decide_eq_true_eq] at hq
  obtain ⟨⟨⟨h1,h2⟩,h3⟩,h4⟩:=hq
  have e:(zFH (Con.con x) a (o.pas.map (·.seg)) o.start).1=o:=of_decide_eq_true h.2
  have:=zJi h1 h3 h2 h4
  rw [e] at this
  exact this
def Sel (n:Nat) (l:List Int):Prop:=∀ i,i < l.length→0≤l.getD i 0∧l.getD i 0 < n∧(0 < i→l.getD (i - 1) 0 < l.getD i 0)
instance (n:Nat) (l:List Int):Decidable (Sel n l):=inferInstanceAs (Decidable (∀ i,i < l.length→_))
theorem zJk {l:List Int} {i:Nat} (hi:i < l.length):l.getD i 0=l[i]:=by simp [List.getD_eq_getElem?_getD,hi]
theorem zJl (a:Sl DCall) (b:Sl Int) (h:Hp) (ha:a.Ok h) (hb:b.Ok h):Ct jV 77 [a.val,b.val] h fun v h'=>v=.bool (decide (Sel a.l.length b.l))∧h'=h:=by
 have hl:=hb.max
 refine zdn (fun A W=>by simp) Tryz.func77 rfl rfl (by simp) fun W0=>?_
 refine Wk ?_
 refine zde (ι:=Nat) (fun k=>⟨[(0,true,.c (.v a.val)),(1,true,.c (.v b.val)),(7,true,.c (.v b.val)),(8,true,.c (.v (.int .i64 b.l.length))),(9,true,.c (.v (.int .i64 k)))],[],h,0⟩) (fun k=>k≤b.l.length∧∀ i,i < k→0≤b.l.getD i 0∧b.l.getD i 0 < a.l.length∧(0 < i→b.l.getD (i - 1) 0 < b.l.getD i 0)) (fun k=>b.l.length - k) 0 ⟨Nat.zero_le _,fun i hi=>absurd hi (Nat.not_lt_zero _)⟩ ?_ ?_
 ·refine Evs ?_
  exact rfl
 intro k hk
 refine Wk ?_
 refine zc9 rfl (fun hd=>?_) (fun hd=>?_)
 ·have hlt:=zjH hd
  have hgd:=zJk hlt
  rcases Nat.eq_zero_or_pos k with h0|h0
  ·have hf:(0 < (k:Int))=False:=eq_false (by omega)
   repeat' first|refine Wa ?_|refine zhF (fun _=>zzn _ _ _) ?_|(simp only [go_sem,jq,jj,jy,jv,jk,jx,zkR hb hlt,hb.some hlt,hlt,hf,decide_false,Bool.and_false,Bool.false_and,Bool.or_false,Bool.false_eq_true,false_implies,implies_true,true_and,reduceCtorEq];try rfl)|refine Wb ?_|fail
   refine zc9 rfl (fun hq=>?_) (fun hq=>?_)
   ·refine Wk ?_
    refine zjF fun e=>?_
    have h1:=e k hlt
    rw [hgd] at h1
    rw [decide_eq_true h1.1,decide_eq_true h1.2.1] at hq
    cases hq
   ·simp only [Bool.not_eq_false',jJ,decide_eq_true_eq] at hq
    refine Wk ?_
    refine ⟨k+1,⟨hlt,fun i hi=>?_⟩,by omega,zjB (zjA hlt (by omega))⟩
    rcases Nat.lt_succ_iff_lt_or_eq.1 hi with hi|rfl
    ·exact hk.2 i hi
    ·rw [hgd];exact ⟨hq.1,by omega,fun hp=>by omega⟩
  ·have hp:k - 1 < b.l.length:=by omega
   have hw:IntKind.i64.wrap ((k:Int) - 1)=((k - 1:Nat):Int):=by rw [zjz (by omega)];omega
   have hf:(0 < (k:Int))=True:=eq_true (by omega)
   repeat' first|refine Wa ?_|refine zhF (fun _=>zzn _ _ _) ?_|(simp only [go_sem,jq,jj,jy,jv,jk,jx,zkR hb hlt,hb.some hlt,hlt,hw,zkR hb hp,hp,jW,hf,decide_true,and_true,imp_self,true_implies,Bool.and_true,Bool.true_and];try rfl)|refine Wb ?_|fail
   refine zc9 rfl (fun hq=>?_) (fun hq=>?_)
   ·refine Wk ?_
    refine zjF fun e=>?_
    have h1:=e k hlt
    rw [hgd,zJk hp] at h1
    have h2:=h1.2.2 h0
    rcases (jQ _ _).mp hq with hq|hq
    ·rw [decide_eq_true h1.1,decide_eq_true h1.2.1] at hq
     cases hq
    ·have:=of_decide_eq_true hq
     omega
   ·obtain ⟨hq,hq2⟩:=Bool.or_eq_false_iff.1 hq
    simp only [Bool.not_eq_false',jJ,decide_eq_true_eq] at hq
    have hq2:=of_decide_eq_false hq2
    refine Wk ?_
    refine ⟨k+1,⟨hlt,fun i hi=>?_⟩,by omega,zjB (zjA hlt (by omega))⟩
    rcases Nat.lt_succ_iff_lt_or_eq.1 hi with hi|rfl
    ·exact hk.2 i hi
    ·rw [hgd,zJk hp];exact ⟨hq.1,by omega,fun _=>by omega⟩
 ·have hge:=zjI hd
  refine Wk ?_
  exact zjG (fun i hi=>hk.2 i (by omega))
def zJm (a:List DCall) (l:List Int):List DCall:=if Sel a.length l then l.map (fun k=>a.getD k.toNat ⟨0,0,0,0,0⟩) else []
theorem zJn (a:Sl DCall) (b:Sl Int) (h:Hp) (ha:a.Ok h) (hb:b.Ok h) (hz:Sz.sz (Con.con b)≤1048576):Ct jV 53 [a.val,b.val] h fun v h'=>∃ s:Sl DCall,v=s.val∧Con.con s=zJm (Con.con a) (Con.con b)∧s.Ok h'∧Mine h h' s:=by
 have hl:=hb.max
 have hl1:=ha.max
 have hz:=znx hz
 rw [znA] at hz
 rw [con_ints,znB,zJm]
 refine zdn (fun A W=>by simp) Tryz.func53 rfl rfl (by simp) fun W0=>?_
 repeat' first|refine Wa ?_|refine zhF (fun _=>zJl _ _ _ ha hb) ?_|(simp only [go_sem,jq,jj,jy,jv,jk,jx];try rfl)|refine Wb ?_|fail
 refine zc9 rfl (fun hc=>?_) (fun hc=>?_)
 ·refine Wk ?_
  refine ⟨⟨none,0,[]⟩,rfl,?_,znp,Mine.nil⟩
  rw [if_neg (of_decide_eq_false (by simpa only [Bool.not_eq_true'] using hc))];rfl
 have hsel:=of_decide_eq_true (by simpa only [Bool.not_eq_false'] using hc)
 rw [if_pos hsel]
 refine Wk ?_
 refine zm1 (ι:=Nat) (fun k=>⟨[(0,true,.c (.v a.val)),(5,true,.c (.s 0)),(13,true,.c (.v b.val)),(14,true,.c (.v (.int .i64 b.l.length))),(15,true,.c (.v (.int .i64 k)))],[(0,.row 90 5 k (((b.l.take k).map (fun k=>a.l.getD k.toNat ⟨0,0,0,0,0⟩)).flatMap Enc.enc))],h,1⟩) (fun k=>k≤b.l.length) (fun k=>b.l.length - k) 0 (Nat.zero_le _) [0] ?_ ?_
 ·refine Evs ?_
  exact Gk
 intro k hk
 refine Wk ?_
 refine zc9 rfl (fun hd=>?_) (fun hd=>?_)
 ·have hlt:=zjH hd
  obtain ⟨s1,s2,_⟩:=hsel k hlt
  rw [zJk hlt] at s1 s2
  have hi:b.l[k].toNat < a.l.length:=by omega
  have hln:(((b.l.take k).map (fun k=>a.l.getD k.toNat ⟨0,0,0,0,0⟩)).flatMap Enc.enc).length=k * 5:=by rw [ziq Enc.len,List.length_map,List.length_take];exact congrArg (· * 5) (by omega)
  repeat' first|refine Wa ?_|(simp only [go_sem,jq,jj,jy,jv,jk,jx,zkR hb hlt,hb.some hlt,hlt,zkT ha hi,ha.some hi,hi,s1,s2,jW];try rfl)|refine Wb ?_|fail
  refine ⟨by simp only [maxLen];omega,by omega,?_⟩
  refine Wk ?_
  refine ⟨k+1,[2],hlt,by omega,?_⟩
  refine Evs ?_
  refine ⟨zjB (zjA hlt (by omega)),?_,rfl⟩
  rw [List.take_succ_eq_append_getElem hlt,List.map_append,List.flatMap_append,List.map_cons,List.map_nil,List.flatMap_cons,List.flatMap_nil,List.append_nil,show a.l.getD b.l[k].toNat ⟨0,0,0,0,0⟩=a.l[b.l[k].toNat] by simp [List.getD_eq_getElem?_getD,hi]]
  rfl
 ·have hge:=zjI hd
  have hke:k=b.l.length:=Nat.le_antisymm hk hge
  refine zc6 ?_
  refine Evs ?_
  refine zl5 0 (b.l.map (fun k=>a.l.getD k.toNat ⟨0,0,0,0,0⟩)) rfl rfl (by rw [List.length_map,hke]) (by rw [hke,List.take_length]) (by decide) (fun x hx=>?_) h (Hp.le_refl _) (Mines.flat (fun _=>rfl) (fun _=>trivial)) fun s h' e1 e2 e3 e4=>?_
  ·obtain ⟨q,hq,rfl⟩:=List.mem_map.1 hx
   obtain ⟨i,hi,rfl⟩:=List.getElem_of_mem hq
   obtain ⟨s1,s2,_⟩:=hsel i hi
   rw [zJk hi] at s1 s2
   have hi':b.l[i].toNat < a.l.length:=by omega
   rw [show a.l.getD b.l[i].toNat ⟨0,0,0,0,0⟩=a.l[b.l[i].toNat] by simp [List.getD_eq_getElem?_getD,hi']]
   exact ha.el hi'
  refine Wk ?_
  exact ⟨s,rfl,by rw [znB,e1],e2,e4⟩
theorem zO1 (a:Sl DPassage) (h:Hp) (ha:a.Ok h) (hz:a.l.length≤1048576):Ct jV 107 [a.val] h fun v h'=>∃ s:Sl DPassage,v=s.val∧s.l=a.l∧s.Ok h'∧Mine h h' s:=by
 have hall:=ha.all (by decide)
 have hd:(h.ldL a.val 5).isSome=true:=by rw [show h.ldL a.val 5=_ from hall];rfl
 refine zdn (fun A W=>by simp) Tryz.func107 rfl rfl (by simp) fun W0=>?_
 repeat' first|refine Wa ?_|(simp only [go_sem,jq,jj,jy,jv,jk,jx,hall,show h.ldL a.val 5=some (a.l.flatMap Enc.enc) from hall,Option.isSome_some,Option.getD_some];try rfl)|refine Wb ?_|fail
 refine ⟨by simp only [maxLen];omega,by omega,?_⟩
 repeat' first|refine Wa ?_|(simp only [go_sem,jq,jj,jy,jv,jk,jx,hall,show h.ldL a.val 5=some (a.l.flatMap Enc.enc) from hall,Option.isSome_some,Option.getD_some];try rfl)|refine Wb ?_|fail
 refine ⟨fun u hu=>by obtain ⟨x,_,hx⟩:=List.mem_flatMap.1 hu;exact Enc.one x u hx,by simp only [maxLen];omega,by omega,?_⟩
 refine zl5 1 a.l rfl rfl (Nat.zero_add _) rfl (by decide) (fun x hx=>ha.2.2.2.1 x hx) h (Hp.le_refl _) (Mines.flat (fun _=>rfl) (fun _=>trivial)) fun s h' e1 e2 e3 e4=>?_
 refine Wk ?_
 exact ⟨s,rfl,e1,e2,e4⟩
def zJo (l:List POption):List (List DPassage):=l.map (·.pas)
theorem zJp (a:Sl DOption):zJo (Con.con a)=a.l.map (fun o=>o.pas.l):=by
 rw [zJo,zkz,List.map_map]
 exact List.map_congr_left fun o _=>zzo o.pas
theorem zJq (s:Sl (Sl DPassage)):Con.con s=s.l.map (·.l):=List.map_congr_left fun x _=>zzo x
theorem zO2 (a:Sl DOption) (h:Hp) (ha:a.Ok h) (hz:Sz.sz (Con.con a)≤1048576):Ct jV 50 [a.val] h fun v h'=>∃ s:Sl (Sl DPassage),v=s.val∧Con.con s=zJo (Con.con a)∧s.Ok h'∧Mine h h' s:=by
 have hl:=ha.max
 have hz1:=znx hz
 rw [znA] at hz1
 have hzp:∀ k (hk:k < a.l.length),a.l[k].pas.l.length≤1048576:=fun k hk=>by
  have h1:Sz.sz (Con.con a.l[k])≤1048576:=zny hz (by rw [zkz];exact List.mem_map_of_mem (List.getElem_mem hk))
  have h2:Sz.sz (Con.con a.l[k])=Sz.sz (Con.con a.l[k].pas):=rfl
  rw [h2] at h1
  have:=znx h1
  rwa [znA] at this
 rw [zJp]
 refine zdn (fun A W=>by simp) Tryz.func50 rfl rfl (by simp) fun W0=>?_
 refine Wk ?_
 refine zm1 (ι:=Nat × List (Sl DPassage) × Hp) (fun i=>⟨[(3,true,.c (.s 0)),(7,true,.c (.v a.val)),(8,true,.c (.v (.int .i64 a.l.length))),(9,true,.c (.v (.int .i64 i.1)))],[(0,.row 147 1 i.1 (i.2.1.flatMap Enc.enc))],i.2.2,1⟩) (fun i=>i.1≤a.l.length∧i.2.1.length=i.1∧i.2.1.map (·.l)=(a.l.take i.1).map (fun o=>o.pas.l)∧(∀ d ∈ i.2.1,Enc.ok i.2.2 d)∧h.le i.2.2∧Mines h i.2.2 i.2.1) (fun i=>a.l.length - i.1) (0,[],h) ⟨Nat.zero_le _,rfl,rfl,fun _ h=>(by cases h),Hp.le_refl _,Mines.nil⟩ [0] ?_ ?_
 ·refine Evs ?_
  exact Gk
 rintro ⟨k,ds,hk⟩ ⟨hi,hn,hm,ho,hle,hmi⟩
 simp only at hi hn hm ho hle hmi
 have ha':=ha.mono hle
 refine Wk ?_
 refine zc9 rfl (fun hd=>?_) (fun hd=>?_)
 ·have hlt:=zjH hd
  have hp:=(ha'.el hlt).2.2.2
  repeat' first|refine Wa ?_|(simp only [go_sem,jq,jj,jy,jv,jk,jx,zkZ ha' hlt,ha'.some hlt,hlt,jW];try rfl)|refine Wb ?_|fail
  refine zkr (zO1 _ _ hp (hzp k hlt)) rfl ?_
  rintro v h1 hle1 ⟨d,rfl,e1,e2,e3⟩
  refine Wk ?_
  refine ⟨by simp only [maxLen];omega,by omega,?_⟩
  refine Wk ?_
  refine ⟨(k+1,ds ++ [d],h1),[3],⟨hlt,by simp [hn],by rw [List.map_append,hm,zns hlt,← e1];rfl,fun x hx=>?_,Hp.le_trans hle hle1,hmi.snoc ho hle1 hle e3⟩,by simp only;omega,?_⟩
  ·rcases List.mem_append.1 hx with hx|hx
   ·exact Enc.mono hle1 (ho x hx)
   ·rw [List.mem_singleton.1 hx];exact e2
  refine Evs ?_
  refine ⟨zjB (zjA hlt (by omega)),?_,Hp.le_trans hle hle1,rfl⟩
  rw [List.flatMap_append]
  rfl
 ·have hge:=zjI hd
  have hke:k=a.l.length:=Nat.le_antisymm hi hge
  refine zc6 ?_
  refine Evs ?_
  refine zl5 0 ds rfl rfl hn.symm rfl (by decide) ho h hle hmi fun s h' e1 e2 e3 e4=>?_
  refine Wk ?_
  exact ⟨s,rfl,by rw [zJq,e1,hm,hke,List.take_length],e2,e4⟩
def zJt (n:Nat) (m:List Int):Prop:=m.length=n∧(∀ i (hi:i < m.length),0≤m[i]∧m[i] < m.length)∧∀ i (hi:i < m.length),m.getD m[i].toNat 0=(i:Int)
noncomputable instance (n:Nat) (m:List Int):Decidable (zJt n m):=Classical.propDecidable _
noncomputable def zNh (a:List DCall) (m:List Int):Bool:=decide (zJt a.length m)
theorem zNi (a:Sl DCall) (b:Sl Int):zNh (Con.con a) (Con.con b)=decide (zJt a.l.length b.l):=by rw [con_ints,zkz,zNh,List.length_map]
theorem zNj (a:Sl DCall) (b:Sl Int) (h:Hp) (ha:a.Ok h) (hb:b.Ok h):Ct jV 55 [a.val,b.val] h fun v h'=>v=.bool (zNh (Con.con a) (Con.con b))∧h'=h:=by
 rw [zNi]
 have hl:=ha.max
 have hl2:=hb.max
 refine zdn (fun A W=>by simp) Tryz.func55 rfl rfl (by simp) fun W0=>?_
 refine Wk ?_
 refine zc9 rfl (fun hc=>?_) (fun hc=>?_)
 ·refine Wk ?_
  exact zjF fun e=>zjD hc (by rw [e.1])
 have hlen:b.l.length=a.l.length:=by have:=zjE hc;omega
 refine Wk ?_
 refine zde (ι:=Nat) (fun k=>⟨[(1,true,.c (.v b.val)),(12,true,.c (.v b.val)),(13,true,.c (.v (.int .i64 b.l.length))),(14,true,.c (.v (.int .i64 k)))],[],h,0⟩) (fun k=>k≤b.l.length∧(∀ i (hi:i < b.l.length),i < k→0≤b.l[i]∧b.l[i] < b.l.length∧b.l.getD b.l[i].toNat 0=(i:Int))) (fun k=>b.l.length - k) 0 ⟨Nat.zero_le _,fun i _ h=>by omega⟩ ?_ ?_
 ·refine Evs ?_
  rfl
 intro k hk
 refine Wk ?_
 refine zc9 rfl (fun hd=>?_) (fun hd=>?_)
 ·have hlt:=zjH hd
  cases hg:(decide (0≤b.l[k]) && decide (b.l[k] < (b.l.length:Int)))
  ·repeat' first|refine Wa ?_|refine zhF (fun _=>zzn _ _ _) ?_|(simp only [go_sem,jq,jj,jy,jv,jk,jx,zkR hb hlt,hb.some hlt,hlt,hg,Bool.not_false,Bool.not_true,Bool.true_or,Bool.false_or,Bool.false_eq_true,reduceCtorEq,false_implies];try rfl)|refine Wb ?_|fail
   refine zc9 rfl (fun hq=>?_) (fun hq=>?_)
   ·refine Wk ?_
    refine zjF fun e=>?_
    have h1:=e.2.1 k hlt
    rw [decide_eq_true h1.1,decide_eq_true h1.2] at hg
    cases hg
   ·cases hq
  ·have hg':=hg
   simp only [jJ,decide_eq_true_eq] at hg'
   have hi:b.l[k].toNat < b.l.length:=by omega
   repeat' first|refine Wa ?_|refine zhF (fun _=>zzn _ _ _) ?_|(simp only [go_sem,jq,jj,jy,jv,jk,jx,zkR hb hlt,hb.some hlt,hlt,hg,hg'.1,hg'.2,zkR hb hi,Bool.not_false,Bool.not_true,Bool.true_or,Bool.false_or,Bool.false_eq_true];try rfl)|refine Wb ?_|fail
   refine zc9 rfl (fun hq=>?_) (fun hq=>?_)
   ·refine Wk ?_
    refine zjF fun e=>zjD hq ?_
    have:=e.2.2 k hlt
    rwa [List.getD_eq_getElem?_getD,List.getElem?_eq_getElem hi] at this
   ·refine Wk ?_
    refine ⟨k+1,⟨hlt,fun i hi' hik=>?_⟩,by omega,zjB (zjA hlt (by omega))⟩
    rcases Nat.lt_succ_iff_lt_or_eq.1 hik with h1|rfl
    ·exact hk.2 i hi' h1
    ·refine ⟨hg'.1,hg'.2,?_⟩
     rw [List.getD_eq_getElem?_getD,List.getElem?_eq_getElem hi]
     exact zjE hq
 ·have hge:=zjI hd
  refine Wk ?_
  exact zjG ⟨hlen,fun i hi=>⟨(hk.2 i hi (by omega)).1,(hk.2 i hi (by omega)).2.1⟩,fun i hi=>(hk.2 i hi (by omega)).2.2⟩
def flr (l:List POption):Int:=if zzv l < 0 then -1 else (l.getD (zzv l).toNat zFE).cost
def zNk (c:zOv) (r:DRegime) (L:List (List POption)) (i:Nat) (n:Int):Int:=if n=i then flr (L.getD i []) else if (i:Int) < n then zM6 c r (L.getD i []) (L.getD n.toNat []) else 0
def zNl (c:zOv) (r:DRegime) (L:List (List POption)) (m:List Int) (k:Nat) (s:Int):Option Int:=if zNk c r L k (m.getD k 0) < 0 then none else some (IntKind.i64.wrap (s+zNk c r L k (m.getD k 0)))
def zNm (c:zOv) (r:DRegime) (L:List (List POption)) (m:List Int):Nat→Option Int
 | 0=>some 0
 | k+1=>(zNm c r L m k).bind (zNl c r L m k)
def oIB (o:Option Int):Int × Bool:=match o with|none=>(0,false)|some s=>(s,true)
def zJu (x:zOw) (calls:List DCall):List (List POption):=calls.map (zFU x)
noncomputable def zNn (x:zOw) (calls:List DCall) (m:List Int):Int × Bool:=if (zAP x calls && zNh calls m)=true then oIB (zNm x.chart x.regime (zJu x calls) m m.length) else (0,false)
theorem zNo {c:zOv} {r:DRegime} {L:List (List POption)} {m:List Int} {k:Nat} (h:zNm c r L m k=none):∀ {n:Nat},k≤n→zNm c r L m n=none
 | 0,hn=>by rw [← Nat.le_zero.1 hn,h]
 | n+1,hn=>by
  rcases Nat.lt_or_ge n k with hk|hk
  ·rw [show n+1=k by omega,h]
  ·rw [zNm,zNo h hk];rfl
theorem zNp {c:zOv} {r:DRegime} {L:List (List POption)} {m:List Int} {k n:Nat} {s:Int} (h:zNm c r L m k=some s) (hb:zNk c r L k (m.getD k 0) < 0) (hk:k < n):zNm c r L m n=none:=by
 refine zNo (k:=k+1) ?_ hk
 rw [zNm,h,Option.bind_some,zNl,if_pos hb]
theorem zNq {c:zOv} {r:DRegime} {L:List (List POption)} {m:List Int} {k:Nat} {s:Int} (h:zNm c r L m k=some s) (hb:¬ zNk c r L k (m.getD k 0) < 0):zNm c r L m (k+1)=some (IntKind.i64.wrap (s+zNk c r L k (m.getD k 0))):=by
 rw [zNm,h,Option.bind_some,zNl,if_neg hb]
theorem zJw {x:zOw} {l:List DCall} {i:Nat} (hi:i < l.length):(zJu x l).getD i []=zFU x l[i]:=by
 rw [zJu,List.getD_eq_getElem?_getD,List.getElem?_map,List.getElem?_eq_getElem hi];rfl
theorem zJx {x:zOw} {l:List DCall}:(zJu x l).length=l.length:=List.length_map ..
theorem zNu {n:Nat} {m:List Int} (h:zJt n m):m.length=n∧∀ i (hi:i < m.length),0≤m[i]∧m[i] < m.length:=⟨h.1,h.2.1⟩
theorem zJy {x:zOw} {l:List DCall} (h:zAP x l=true):l.length≤6:=by
 simp only [zAP,jJ,decide_eq_true_eq] at h
 exact h.1.2
set_option maxRecDepth 30000 in
theorem zNv (x:DHarbour) (a:Sl DCall) (m:Sl Int) (h:Hp) (hx:Enc.ok h x) (ha:a.Ok h) (hm:m.Ok h):Ct jV 54 [x.v,a.val,m.val] h fun v h'=>v=.tuple #[.int .i64 (zNn (Con.con x) (Con.con a) (Con.con m)).1,.bool (zNn (Con.con x) (Con.con a) (Con.con m)).2]∧h'=h:=by
 have hla:=ha.max
 have hlm:=hm.max
 refine Ct.forget ?_
 refine zdn (fun A W=>by simp) Tryz.func54 rfl rfl (by simp) fun W0=>?_
 repeat' first|refine Wa ?_|refine zhF (fun _=>zAS x a _ hx ha) ?_|refine zhF (fun _=>zNj a m _ ha hm) ?_|(simp only [go_sem,jq,jj,jy,jv,jk,jx];try rfl)|refine Wb ?_|fail
 refine zc9 rfl (fun hc=>?_) (fun hc=>?_)
 ·have hF:zNn (Con.con x) (Con.con a) (Con.con m)=(0,false):=by
   rw [zNn,if_neg]
   intro H
   rw [jJ] at H
   rw [H.1,H.2] at hc
   cases hc
  rw [hF]
  exact Wk0
 obtain ⟨hc1,hc2⟩:=Bool.or_eq_false_iff.1 hc
 rw [Bool.not_eq_false'] at hc1 hc2
 have hF:zNn (Con.con x) (Con.con a) (Con.con m)=oIB (zNm (Con.con x.chart) x.regime (zJu (Con.con x) a.l) m.l m.l.length):=by
  rw [zNn,hc1,hc2,zAQ,con_ints];rfl
 rw [zAQ] at hc1
 have h6:=zJy hc1
 have hz:a.l.length≤1048576:=by omega
 rw [zNi] at hc2
 obtain ⟨hml,hmi⟩:=zNu (of_decide_eq_true hc2)
 rw [hF]
 refine Wk ?_
 refine zde (ι:=Nat × Int) (fun i=>⟨[(1,true,.c (.v a.val)),(3,true,.c (.p 0 0)),(6,true,.c (.v (.int .i64 0))),(7,true,.c (.v (.bool false))),(8,true,.c (.v (.int .i64 i.2))),(22,true,.c (.v m.val)),(23,true,.c (.v (.int .i64 m.l.length))),(24,true,.c (.v (.int .i64 i.1)))],[(0,.box 58 [.v (.int .i64 x.forecast.tide.mean),.v x.forecast.tide.parts.val,.v x.forecast.surges.val,.v x.chart.points.val,.v x.chart.segments.val,.v x.fleet.val,.v (.int .i64 x.regime.gap),.v (.bool x.regime.noMeet),.v (.int .i64 x.crew.tugs),.v (.int .i64 x.crew.pilots),.v (.int .i64 x.crew.rest),.v x.crew.moves.val])],h,1⟩) (fun i=>i.1≤m.l.length∧zNm (Con.con x.chart) x.regime (zJu (Con.con x) a.l) m.l i.1=some i.2) (fun i=>m.l.length - i.1) (0,0) ⟨Nat.zero_le _,rfl⟩ ?_ ?_
 ·refine Evs ?_
  exact Gk
 rintro ⟨k,z⟩ ⟨hk,hgo⟩
 simp only at hk hgo
 refine Wk ?_
 refine zc9 rfl (fun hd=>?_) (fun hd=>?_)
 ·have hlt:=zjH hd
  have hmk:m.l.getD k 0=m.l[k]:=iget hlt
  have hkL:k < a.l.length:=by omega
  have hkL2:(k:Int) < a.l.length:=by omega
  repeat' first|refine Wa ?_|(simp only [go_sem,jq,jj,jy,jv,jk,jx,atI hm hlt,hm.some hlt,hlt,jW];try rfl)|refine Wb ?_|fail
  refine zc9 rfl (fun hq=>?_) (fun hq=>?_)
  ·have hq:=eq_of_beq hq
   have hA:zNk (Con.con x.chart) x.regime (zJu (Con.con x) a.l) k (m.l.getD k 0)=zM3 (Con.con x) (Con.con a.l[k]):=by rw [zNk,hmk,if_pos hq,zJw hkL];rfl
   refine Wk ?_
   refine zyW rfl ?_
   refine U_t [0,1,2,3,4] rfl ?_
   simp only [go_sem,jq,jj,jy,jv,jk,jx,zkT ha hkL,ha.some hkL,hkL,hkL2,jW,jY,implies_true,true_and,and_true,and_self]
   refine U_1 5 0 [] rfl rfl ?_
   simp only [go_sem,jq,jj,jy,jv,jk,jx,zkT ha hkL,ha.some hkL,hkL,hkL2,jW,jY,implies_true,true_and,and_true,and_self]
   refine zhF (fun _=>zM5 x a.l[k] _ hx (ha.el hkL)) ?_
   simp only [go_sem,jq,jj,jy,jv,jk,jx,zkT ha hkL,ha.some hkL,hkL,hkL2,jW,jY,implies_true,true_and,and_true,and_self]
   refine U_t [6] rfl ?_
   simp only [go_sem,jq,jj,jy,jv,jk,jx,zkT ha hkL,ha.some hkL,hkL,hkL2,jW,jY,implies_true,true_and,and_true,and_self]
   refine U_d ?_
   refine Wk ?_
   refine zc9 rfl (fun hq3=>?_) (fun hq3=>?_)
   ·refine Wk ?_
    rw [zNp hgo (by rw [hA];exact of_decide_eq_true hq3) hlt]
    rfl
   ·have hgo2:=zNq hgo (by rw [hA];exact of_decide_eq_false hq3)
    rw [hA] at hgo2
    refine Wk ?_
    refine ⟨(k+1,IntKind.i64.wrap (z+zM3 (Con.con x) (Con.con a.l[k]))),⟨hlt,hgo2⟩,by simp only;omega,?_⟩
    refine Evs ?_
    exact zjB (zjA hlt (by omega))
  have hq:=ne_of_beq_false hq
  refine Wk ?_
  refine zc9 rfl (fun hq2=>?_) (fun hq2=>?_)
  ·have hq2:=of_decide_eq_true hq2
   obtain ⟨_,hn1⟩:=hmi k hlt
   have hn1:m.l[k] < (a.l.length:Int):=by omega
   have hn0:(0:Int)≤m.l[k]:=by omega
   have hnL:m.l[k].toNat < a.l.length:=by omega
   have hA:zNk (Con.con x.chart) x.regime (zJu (Con.con x) a.l) k (m.l.getD k 0)=zM7 (Con.con x) (Con.con a.l[k]) (Con.con a.l[m.l[k].toNat]):=by rw [zNk,hmk,if_neg hq,if_pos hq2,zJw hkL,zJw hnL];rfl
   refine Wk ?_
   refine zyW rfl ?_
   refine U_t [0,1,2,5,6,3,7,4,8] rfl ?_
   simp only [go_sem,jq,jj,jy,jv,jk,jx,zkT ha hkL,ha.some hkL,hkL,hkL2,zkT ha hnL,ha.some hnL,hnL,hn0,hn1,jW,jY,implies_true,true_and,and_true,and_self]
   refine U_1 9 0 [] rfl rfl ?_
   simp only [go_sem,jq,jj,jy,jv,jk,jx,zkT ha hkL,ha.some hkL,hkL,hkL2,zkT ha hnL,ha.some hnL,hnL,hn0,hn1,jW,jY,implies_true,true_and,and_true,and_self]
   refine zhF (fun _=>zNg x a.l[k] a.l[m.l[k].toNat] _ hx (ha.el hkL) (ha.el hnL)) ?_
   simp only [go_sem,jq,jj,jy,jv,jk,jx,zkT ha hkL,ha.some hkL,hkL,hkL2,zkT ha hnL,ha.some hnL,hnL,hn0,hn1,jW,jY,implies_true,true_and,and_true,and_self]
   refine U_t [10] rfl ?_
   simp only [go_sem,jq,jj,jy,jv,jk,jx,zkT ha hkL,ha.some hkL,hkL,hkL2,zkT ha hnL,ha.some hnL,hnL,hn0,hn1,jW,jY,implies_true,true_and,and_true,and_self]
   refine U_d ?_
   refine Wk ?_
   refine zc9 rfl (fun hq3=>?_) (fun hq3=>?_)
   ·refine Wk ?_
    rw [zNp hgo (by rw [hA];exact of_decide_eq_true hq3) hlt]
    rfl
   ·have hgo2:=zNq hgo (by rw [hA];exact of_decide_eq_false hq3)
    rw [hA] at hgo2
    refine Wk ?_
    refine ⟨(k+1,IntKind.i64.wrap (z+zM7 (Con.con x) (Con.con a.l[k]) (Con.con a.l[m.l[k].toNat]))),⟨hlt,hgo2⟩,by simp only;omega,?_⟩
    refine Evs ?_
    exact zjB (zjA hlt (by omega))
  ·have hq2:=of_decide_eq_false hq2
   have hA:zNk (Con.con x.chart) x.regime (zJu (Con.con x) a.l) k (m.l.getD k 0)=0:=by rw [zNk,hmk,if_neg hq,if_neg hq2]
   refine Wk ?_
   refine zc9 rfl (fun hq3=>?_) (fun hq3=>?_)
   ·refine Wk ?_
    rw [zNp hgo (by rw [hA];exact of_decide_eq_true hq3) hlt]
    rfl
   ·have hgo2:=zNq hgo (by rw [hA];exact of_decide_eq_false hq3)
    rw [hA] at hgo2
    refine Wk ?_
    refine ⟨(k+1,IntKind.i64.wrap (z+0)),⟨hlt,hgo2⟩,by simp only;omega,?_⟩
    refine Evs ?_
    exact zjB (zjA hlt (by omega))
 ·have hge:=zjI hd
  obtain rfl:k=m.l.length:=by omega
  refine Wk ?_
  rw [hgo]
  rfl
theorem zJz {P:Nat→Prop} (h:∃ n,P n):∃ n,P n∧∀ m,P m→n≤m:=by
 classical
 obtain ⟨n,hn⟩:=h
 induction n using Nat.strongRecOn with
 | _ n ih =>
  by_cases hc:∃ m,m < n∧P m
  ·obtain ⟨m,hm,hp⟩:=hc;exact ih m hm hp
  ·exact ⟨n,hn,fun m hm=>Nat.le_of_not_lt fun hlt=>hc ⟨m,hlt,hm⟩⟩
theorem zJA {both:Nat→Nat→Bool} {n:Nat}:∃ w k,zIr both n=some (w,k)∧CovOn both (fun i=>i < n) k∧(∀ j,CovOn both (fun i=>i < n) j→k≤j)∧k≤n:=by
 obtain ⟨k,h1,h2⟩:=zJz (P:=fun k=>CovOn both (fun i=>i < n) k) ⟨n,CovOn.id fun i hi=>hi⟩
 obtain ⟨w,hw⟩:=Option.isSome_iff_exists.1 (zIu.2 h1)
 have hm:k≤n:=h2 n (CovOn.id fun i hi=>hi)
 refine ⟨w,k,zIv (fun j hj=>?_) hw hm,h1,h2,hm⟩
 cases hh:zDd both j n [] with
 | none=>rfl
 | some w' =>
  have:=h2 j (zIu.1 (by rw [hh];rfl))
  omega
theorem zJB {p:Int} {m:List Int} {l:List DDuty} (h:zIs p m l=true):0≤(zIt p m l).2.1∧(zIt p m l).2.1≤l.length∧∀ k:Int,(zIt p m l).2.1≤k ↔ 0≤k∧CovOn (zIq p m l) (fun i=>i < l.length) k.toNat:=by
 obtain ⟨w,n,h1,h2,h3,h4⟩:=zJA (both:=zIq p m l) (n:=l.length)
 rw [zIB h h1]
 refine ⟨jY _,by simp only;omega,fun k=>⟨fun hk=>?_,fun hk=>?_⟩⟩
 ·simp only at hk
  exact ⟨by omega,h2.mono (by omega)⟩
 ·have:=h3 _ hk.2
  simp only;omega
def zJC (p:Int) (m:List Int) (l:List DDuty) (k:Int):Bool:=decide ((l.length:Int)≤k) || decide ((zIt p m l).2.1≤k)
theorem zJD {p:Int} {m:List Int} {l:List DDuty} {k:Int} (h:zIs p m l=true):zJC p m l k=In (zIt p m l).2.1 0 k:=by
 obtain ⟨h1,h2,_⟩:=zJB h
 rw [zJC,In,Bool.eq_iff_iff]
 simp only [jQ,jJ,decide_eq_true_eq]
 omega
theorem zJE {l l2:List DDuty} (h:zHb (l ++ l2)=true):zHb l=true:=by
 rw [zHb,jJ,decide_eq_true_eq,List.all_eq_true] at h ⊢
 rw [List.length_append] at h
 exact ⟨by omega,fun x hx=>h.2 x (List.mem_append_left _ hx)⟩
theorem zJF {p:Int} {m:List Int} {l l2:List DDuty} {k:Int} (hp:In p 0 2880=true) (hm:zAn m=true) (hd:zHb (l ++ l2)=true) (h:zJC p m (l ++ l2) k=true):zJC p m l k=true:=by
 have c1:zIs p m (l ++ l2)=true:=by rw [zIs,hd,hp,hm];rfl
 have c2:zIs p m l=true:=by rw [zIs,zJE hd,hp,hm];rfl
 rw [zJD c1,In,jJ,decide_eq_true_eq,decide_eq_true_eq] at h
 obtain ⟨a1,a2,a3⟩:=zJB c1
 obtain ⟨b1,b2,b3⟩:=zJB c2
 obtain ⟨h0,g,g1,g2⟩:=(a3 k).1 h.2
 rw [zJD c2,In,jJ,decide_eq_true_eq,decide_eq_true_eq]
 refine ⟨b1,(b3 k).2 ⟨h0,g,fun i hi=>g1 i (by rw [List.length_append];omega),fun i j hi hj hji he=>?_⟩⟩
 have:=g2 i j (by rw [List.length_append];omega) (by rw [List.length_append];omega) hji he
 rw [zIq] at this ⊢
 rw [List.getD_eq_getElem?_getD,List.getD_eq_getElem?_getD,List.getElem?_append_left hi,List.getElem?_append_left hj] at this
 rw [List.getD_eq_getElem?_getD,List.getD_eq_getElem?_getD];exact this
def pilD (c:zOv) (l:List POption):List DDuty:=(l.filter fun o=>decide (0 < o.pas.length)).map fun o=>zD8 c (o.pas.getD 0 dQ) (o.pas.getD (o.pas.length - 1) dQ)
def zJG (x:zOw) (l:List POption):Bool:=match zGt x.chart x.fleet (l.flatMap (·.pas)) with
 | none=>false
 | some d=>zJC 0 x.crew.moves d x.crew.tugs && zJC x.crew.rest x.crew.moves (pilD x.chart l) x.crew.pilots
theorem zJH {c:zOv} {f:List DShip}:∀ {l:List POption},(∀ o ∈ l,zJb c f o.pas)→pilL c f (l.map (·.pas))=pilD c l
 | [],_=>rfl
 | o :: l,h=>by
  obtain ⟨h1,h2,h3⟩:=h o (List.mem_cons_self ..)
  have ih:=zJH (l:=l) fun y hy=>h y (List.mem_cons_of_mem _ hy)
  rw [pilL,pilD] at ih ⊢
  rw [List.map_cons,List.filter_cons_of_pos (by simpa using h1),List.filter_cons_of_pos (by simpa using h1),List.map_cons,List.map_cons,ih,zEb h1 h2 h3]
theorem zJI {c:zOv} {f:List DShip} {l:List POption} (h:∀ o ∈ l,zJb c f o.pas):zIS c f (l.map (·.pas)):=fun x hx _=>by
 obtain ⟨o,ho,rfl⟩:=List.mem_map.1 hx
 obtain ⟨h1,h2,h3⟩:=h o ho
 rw [zEb h1 h2 h3]
theorem zJJ {c:zOv} {l:List POption}:(pilD c l).length≤l.length:=by
 rw [pilD,List.length_map];exact List.length_filter_le _ _
theorem zJK {c:zOv} {f:List DShip} {l:List POption} (h:∀ o ∈ l,zJb c f o.pas) (h12:l.length≤12):zHb (pilD c l)=true:=by
 rw [← zJH h]
 refine zIX (zJI h) ?_
 rw [zJH h]
 exact Nat.le_trans zJJ h12
theorem zJL {x:zOw} {l:List POption} (hw:zAo x.crew=true) (h:∀ o ∈ l,zJb x.chart x.fleet o.pas) (h12:l.length≤12):zIU x.crew x.chart x.fleet (l.map (·.pas))=zJG x l:=by
 obtain ⟨hr,ht⟩:=zIP hw
 have hfl:(l.map (·.pas)).flatten=l.flatMap (·.pas):=(List.flatMap_def ..).symm
 have hd:=zJK h h12
 have hc2:zIs x.crew.rest x.crew.moves (pilD x.chart l)=true:=by rw [zIs,hd,hr,ht];rfl
 rw [zIU,zJG,hfl,zIO]
 cases hq:zGt x.chart x.fleet (l.flatMap (·.pas)) with
 | none=>simp [In]
 | some d =>
  have hc1:zIs 0 x.crew.moves d=true:=by rw [zIs,zIN hq,ht];rfl
  simp only
  rw [if_pos hw,zJD hc1,zJD hc2,zIT,if_pos ⟨hw,zJI h,by rw [zJH h];exact Nat.le_trans zJJ h12⟩,zJH h]
theorem zJM {x:zOw} (hw:zAo x.crew=true):zJG x []=true:=by
 have h:zGt x.chart x.fleet []=some []:=by
  rw [zGt,if_pos ⟨fun i hi=>absurd hi (Nat.not_lt_zero _),Nat.zero_le _⟩];rfl
 rw [zAo] at hw
 simp only [In,jJ,decide_eq_true_eq] at hw
 rw [zJG,show ([]:List POption).flatMap (·.pas)=[] from rfl,h]
 simp only [zJC,jJ,jQ,decide_eq_true_eq]
 exact ⟨.inl (by simp only [List.length_nil];omega),.inl (by show (([]:List DDuty).length:Int)≤_;simp only [List.length_nil];omega)⟩
theorem zJN {x:zOw} {l l2:List POption} (hw:zAo x.crew=true) (hg:∀ o ∈ l ++ l2,zJb x.chart x.fleet o.pas) (h12:(l ++ l2).length≤12) (h:zJG x (l ++ l2)=true):zJG x l=true:=by
 obtain ⟨hr,ht⟩:=zIP hw
 have hd:=zJK hg h12
 rw [zJG] at h ⊢
 cases hq:zGt x.chart x.fleet ((l ++ l2).flatMap (·.pas)) with
 | none=>rw [hq] at h;cases h
 | some d =>
  rw [hq] at h
  have hdd:=zIN hq
  simp only [jJ] at h
  rw [zGt] at hq
  split at hq
  ·rename_i hc
   obtain ⟨hc1,hc2⟩:=hc
   obtain rfl:=Option.some.inj hq
   rw [List.flatMap_append] at hc1 hc2 hdd h
   rw [show tugL x.chart x.fleet (l.flatMap (·.pas) ++ l2.flatMap (·.pas))=tugL x.chart x.fleet (l.flatMap (·.pas)) ++ tugL x.chart x.fleet (l2.flatMap (·.pas)) from List.flatMap_append] at hc2 hdd h
   have hs:zGt x.chart x.fleet (l.flatMap (·.pas))=some (tugL x.chart x.fleet (l.flatMap (·.pas))):=by
    have hall:∀ i,i < (l.flatMap (·.pas)).length→pOk x.chart x.fleet (l.flatMap (·.pas)) i=true:=fun i hi=>by
     have:=hc1 i (by rw [List.length_append];omega)
     rw [pOk,List.getD_eq_getElem?_getD,List.getElem?_append_left hi] at this
     rw [pOk,List.getD_eq_getElem?_getD];exact this
    rw [zGt,if_pos ⟨hall,by rw [List.length_append] at hc2;omega⟩]
   rw [hs]
   simp only [jJ]
   have hpd:pilD x.chart (l ++ l2)=pilD x.chart l ++ pilD x.chart l2:=by rw [pilD,List.filter_append,List.map_append];rfl
   rw [hpd] at hd h
   exact ⟨zJF (by decide) ht hdd h.1,zJF hr ht hd h.2⟩
  ·cases hq
theorem zJO (p q:DPassage):Ov p q=Ov q p:=by rw [Ov,Ov,Int.max_comm,Int.min_comm]
theorem zJP (a b g:Int):zA8 a b g=zA8 b a g:=by rw [zA8,zA8,Int.max_comm,Int.min_comm]
theorem zJQ (c:zOv) (r:DRegime) (p q:DPassage):zA9 c r p q=zA9 c r q p:=by
 by_cases hc:p.seg=q.seg∧0≤p.seg∧p.seg < c.segments.length
 ·have hc2:q.seg=p.seg∧0≤q.seg∧q.seg < c.segments.length:=⟨hc.1.symm,by rw [← hc.1];exact hc.2⟩
  rw [zA9,zA9,if_neg (not_not_intro hc),if_neg (not_not_intro hc2),zJO q p,zJP q.start,zJP q.fin,hc.1]
  by_cases hs:p.ship=q.ship
  ·rw [if_pos hs,if_pos hs.symm]
  ·rw [if_neg hs,if_neg (Ne.symm hs)]
   by_cases ht:p.toward=q.toward
   ·rw [if_neg (not_not_intro ht),if_neg (not_not_intro ht.symm)]
    split
    ·rfl
    ·by_cases h4:(p.start < q.start∧q.fin < p.fin)∨(q.start < p.start∧p.fin < q.fin)
     ·rw [if_pos h4,if_pos h4.symm]
     ·rw [if_neg h4,if_neg fun h=>h4 h.symm]
   ·rw [if_pos ht,if_pos (Ne.symm ht)]
 ·have hc2:¬ (q.seg=p.seg∧0≤q.seg∧q.seg < c.segments.length):=fun h=>hc ⟨h.1.symm,by rw [← h.1];exact h.2⟩
  rw [zA9,zA9,if_pos hc,if_pos hc2]
theorem zJR (c:zOv) (r:DRegime) (a b:List DPassage):zBa c r a b=zBa c r b a:=by
 rw [Bool.eq_iff_iff]
 simp only [zBa,List.any_eq_true,decide_eq_true_eq]
 constructor
 ·rintro ⟨p,hp,q,hq,h⟩;exact ⟨q,hq,p,hp,by rw [zJQ];exact h⟩
 ·rintro ⟨p,hp,q,hq,h⟩;exact ⟨q,hq,p,hp,by rw [zJQ];exact h⟩
def zJS (x:zOw) (l:List POption) (o:POption):Bool:=!(l.any fun p=>zBa x.chart x.regime p.pas o.pas)
def zJT (x:zOw) (l:List POption) (o:POption):Bool:=zJS x l o && zJG x (l ++ [o])
def ipAt (x:zOw) (calls:List DCall) (l:List POption) (i:Nat):Bool:=zOX x (calls.getD i dC) (l.getD i zFE) && zJT x (l.take i) (l.getD i zFE)
def zO3 (x:zOw) (calls:List DCall) (l:List POption):Bool:=zAP x calls && decide (l.length=calls.length) && decide (∀ i,i < calls.length→ipAt x calls l i=true)
theorem zO4 {l:List POption} {i:Nat} (hi:i < l.length):l.take i ++ [l.getD i zFE]=l.take (i+1):=by
 rw [List.take_succ_eq_append_getElem hi,List.getD_eq_getElem?_getD,List.getElem?_eq_getElem hi];rfl
theorem zJU {x:zOw} {calls:List DCall} (h:zAP x calls=true):zAo x.crew=true:=by
 rw [zAP,zAp,jJ,jJ,jJ] at h
 exact h.1.1.2
def sumC (l:List POption):Int:=(l.map (·.cost)).sum
abbrev BSt:=Option (List Nat × Int)
def upd (st:BSt) (y:List Nat × Int):BSt:=match st with
 | none=>some y
 | some (b,m)=>if y.2 < m then some y else some (b,m)
def cut (st:BSt) (c:Int):Bool:=match st with
 | none=>false
 | some (_,m)=>decide (m≤c)
def srI (x:zOw):List (List POption)→List POption→List Nat→BSt→BSt
 | [],p,ch,st=>if cut st (sumC p)=true then st else some (ch,sumC p)
 | l :: L,p,ch,st=>if cut st (sumC p)=true then st else (List.range l.length).foldl (fun st k=>if zJT x p (l.getD k zFE)=true then srI x L (p ++ [l.getD k zFE]) (ch ++ [k]) st else st) st
def zJV (x:zOw):List (List POption)→List POption→List Nat→List (List Nat × Int)
 | [],p,ch=>[(ch,sumC p)]
 | l :: L,p,ch=>(List.range l.length).flatMap fun k=>if zJT x p (l.getD k zFE)=true then zJV x L (p ++ [l.getD k zFE]) (ch ++ [k]) else []
theorem zJW {p:List POption} {o:POption}:sumC (p ++ [o])=sumC p+o.cost:=by
 rw [sumC,List.map_append,List.sum_append];simp [sumC]
theorem zJX {l:List POption} {k:Nat} (hk:k < l.length):l.getD k zFE ∈ l:=by
 rw [List.getD_eq_getElem?_getD,List.getElem?_eq_getElem hk];exact List.getElem_mem hk
theorem zJY {b:List Nat} {m:Int}:∀ {l:List (List Nat × Int)},(∀ y ∈ l,m≤y.2)→l.foldl upd (some (b,m))=some (b,m)
 | [],_=>rfl
 | y :: l,h=>by
  have h1:=h y (List.mem_cons_self ..)
  rw [List.foldl_cons,show upd (some (b,m)) y=some (b,m) by rw [upd,if_neg (by omega)],zJY fun z hz=>h z (List.mem_cons_of_mem _ hz)]
theorem zJZ {α β γ:Type} {f:α→List β} {g:γ→β→γ}:∀ {l:List α} {z:γ},(l.flatMap f).foldl g z=l.foldl (fun z a=>(f a).foldl g z) z
 | [],_=>rfl
 | a :: l,z=>by rw [List.flatMap_cons,List.foldl_append,List.foldl_cons,zJZ]
theorem zJ0 {α γ:Type} {f g:γ→α→γ}:∀ {l:List α} {z:γ},(∀ a ∈ l,∀ z,f z a=g z a)→l.foldl f z=l.foldl g z
 | [],_,_=>rfl
 | a :: l,z,h=>by rw [List.foldl_cons,List.foldl_cons,h a (List.mem_cons_self ..),zJ0 fun b hb=>h b (List.mem_cons_of_mem _ hb)]
theorem zJ1 {x:zOw}:∀ {L:List (List POption)} {p:List POption} {ch:List Nat},(∀ l ∈ L,∀ o ∈ l,0≤o.cost)→∀ y ∈ zJV x L p ch,sumC p≤y.2
 | [],p,ch,_,y,hy=>by rw [zJV,List.mem_singleton] at hy;rw [hy];exact Int.le_refl _
 | l :: L,p,ch,h,y,hy=>by
  rw [zJV] at hy
  obtain ⟨k,hk,hy⟩:=List.mem_flatMap.1 hy
  have hk:=List.mem_range.1 hk
  split at hy
  ·have:=zJ1 (fun l hl=>h l (List.mem_cons_of_mem _ hl)) y hy
   have:=h l (List.mem_cons_self ..) _ (zJX hk)
   rw [zJW] at *
   omega
  ·cases hy
theorem zJ2 {x:zOw}:∀ {L:List (List POption)} {p:List POption} {ch:List Nat} {st:BSt},(∀ l ∈ L,∀ o ∈ l,0≤o.cost)→srI x L p ch st=(zJV x L p ch).foldl upd st
 | [],p,ch,st,_=>by
  rw [srI,zJV,List.foldl_cons,List.foldl_nil]
  cases st with
  | none=>rfl
  | some s =>
   obtain ⟨b,m⟩:=s
   rw [cut,upd]
   by_cases hm:m≤sumC p
   ·rw [if_pos (decide_eq_true hm),if_neg (by simp only;omega)]
   ·rw [if_neg (by rw [decide_eq_true_eq];exact hm),if_pos (by simp only;omega)]
 | l :: L,p,ch,st,h=>by
  have hge:=zJ1 (x:=x) (p:=p) (ch:=ch) h
  rw [srI]
  split
  ·rename_i hc
   cases st with
   | none=>cases hc
   | some s =>
    obtain ⟨b,m⟩:=s
    have hm:m≤sumC p:=of_decide_eq_true hc
    exact (zJY fun y hy=>Int.le_trans hm (hge y hy)).symm
  ·rw [zJV,zJZ]
   refine zJ0 fun k hk st=>?_
   split
   ·exact zJ2 fun l hl=>h l (List.mem_cons_of_mem _ hl)
   ·rfl
theorem zJ3 (l:List Int):∀ k,k≤l.length→∀ i,i < k→l.getD (zzt l k).toNat 0≤l.getD i 0
 | 0,_,i,hi=>absurd hi (Nat.not_lt_zero i)
 | k+1,hk,i,hi=>by
  simp only [zzt]
  rcases zzu l k with ⟨rfl,h⟩|h
  ·rw [h,if_pos (.inl (by decide)),show i=0 by omega];exact Int.le_refl _
  ·split
   ·rename_i hc
    have hc:l.getD k 0 < l.getD (zzt l k).toNat 0:=by omega
    rw [jW]
    rcases Nat.lt_or_ge i k with hik|hik
    ·have:=zJ3 l k (by omega) i hik;omega
    ·rw [show i=k by omega];exact Int.le_refl _
   ·rename_i hc
    rcases Nat.lt_or_ge i k with hik|hik
    ·exact zJ3 l k (by omega) i hik
    ·rw [show i=k by omega];omega
theorem zJ4 {l:List POption} {o:POption} (ho:o ∈ l):flr l≤o.cost:=by
 obtain ⟨i,hi,rfl⟩:=List.getElem_of_mem ho
 have h1:=zF3 l
 rcases h1 with ⟨h1,_⟩|⟨h1,h2⟩
 ·subst h1;cases hi
 ·rw [flr,if_neg (by omega)]
  have h3:=zJ3 (l.map (·.cost)) l.length (by rw [List.length_map];exact Nat.le_refl _) i hi
  rw [zzv] at h1 h2 ⊢
  generalize (zzt (l.map (·.cost)) l.length)=q at *
  have hq:q.toNat < l.length:=by omega
  rw [List.getD_eq_getElem?_getD,List.getD_eq_getElem?_getD,List.getElem?_map,List.getElem?_map,List.getElem?_eq_getElem hq,List.getElem?_eq_getElem hi] at h3
  rw [List.getD_eq_getElem?_getD,List.getElem?_eq_getElem hq]
  exact h3
def zJ5:List (List POption)→Int
 | []=>0
 | l :: L=>zJ5 L+flr l
noncomputable def srS (x:zOw):List (List POption)→List POption→List Nat→BSt→BSt
 | [],p,ch,st=>if cut st (sumC p)=true then st else if zIU x.crew x.chart x.fleet (zJo p)=true then some (ch,sumC p) else st
 | l :: L,p,ch,st=>if cut st (sumC p+zJ5 (l :: L))=true then st else (List.range l.length).foldl (fun st k=>if zJS x p (l.getD k zFE)=true then srS x L (p ++ [l.getD k zFE]) (ch ++ [k]) st else st) st
noncomputable def zJ6 (x:zOw):List (List POption)→List POption→List Nat→List (List Nat × Int)
 | [],p,ch=>if zIU x.crew x.chart x.fleet (zJo p)=true then [(ch,sumC p)] else []
 | l :: L,p,ch=>(List.range l.length).flatMap fun k=>if zJS x p (l.getD k zFE)=true then zJ6 x L (p ++ [l.getD k zFE]) (ch ++ [k]) else []
theorem zJ7 {x:zOw}:∀ {L:List (List POption)} {p:List POption} {ch:List Nat},∀ y ∈ zJ6 x L p ch,sumC p+zJ5 L≤y.2
 | [],p,ch,y,hy=>by
  rw [zJ6] at hy
  split at hy
  ·rw [List.mem_singleton.1 hy,zJ5];simp
  ·cases hy
 | l :: L,p,ch,y,hy=>by
  rw [zJ6] at hy
  obtain ⟨k,hk,hy⟩:=List.mem_flatMap.1 hy
  have hk:=List.mem_range.1 hk
  split at hy
  ·have h1:=zJ7 y hy
   have h2:=zJ4 (zJX hk)
   rw [zJW] at h1
   rw [zJ5]
   omega
  ·cases hy
theorem zJ8 {x:zOw}:∀ {L:List (List POption)} {p:List POption} {ch:List Nat} {st:BSt},srS x L p ch st=(zJ6 x L p ch).foldl upd st
 | [],p,ch,st=>by
  rw [srS,zJ6]
  cases st with
  | none =>
   rw [if_neg (show ¬ cut none (sumC p)=true from Bool.false_ne_true)]
   split <;> rfl
  | some s =>
   obtain ⟨b,m⟩:=s
   rw [cut]
   by_cases hm:m≤sumC p
   ·rw [if_pos (decide_eq_true hm)]
    refine (zJY fun y hy=>?_).symm
    split at hy
    ·rw [List.mem_singleton.1 hy];exact hm
    ·cases hy
   ·rw [if_neg (by rw [decide_eq_true_eq];exact hm)]
    split
    ·rw [List.foldl_cons,List.foldl_nil,upd,if_pos (by simp only;omega)]
    ·rfl
 | l :: L,p,ch,st=>by
  have hge:=zJ7 (x:=x) (L:=l :: L) (p:=p) (ch:=ch)
  rw [srS]
  split
  ·rename_i hc
   cases st with
   | none=>cases hc
   | some s =>
    obtain ⟨b,m⟩:=s
    have hm:m≤sumC p+zJ5 (l :: L):=of_decide_eq_true hc
    exact (zJY fun y hy=>Int.le_trans hm (hge y hy)).symm
  ·rw [zJ6,zJZ]
   refine zJ0 fun k hk st=>?_
   split
   ·exact zJ8
   ·rfl
theorem zJ9 {x:zOw} (hw:zAo x.crew=true):∀ {L:List (List POption)} {p:List POption} {ch:List Nat},(∀ o ∈ p,zJb x.chart x.fleet o.pas)→(∀ l ∈ L,∀ o ∈ l,zJb x.chart x.fleet o.pas)→p.length+L.length≤12→zJG x p=false→zJ6 x L p ch=[]
 | [],p,ch,hp,hL,h12,hf=>by
  rw [zJ6,show zJo p=p.map (·.pas) from rfl,zJL hw hp (by rw [List.length_nil] at h12;omega),hf,if_neg Bool.false_ne_true]
 | l :: L,p,ch,hp,hL,h12,hf=>by
  rw [zJ6,List.flatMap_eq_nil_iff]
  intro k hk
  have hk:=List.mem_range.1 hk
  rw [List.length_cons] at h12
  have hg:∀ o ∈ p ++ [l.getD k zFE],zJb x.chart x.fleet o.pas:=fun o ho=>by
   rcases List.mem_append.1 ho with ho|ho
   ·exact hp o ho
   ·rw [List.mem_singleton.1 ho];exact hL l (List.mem_cons_self ..) _ (zJX hk)
  split
  ·refine zJ9 hw hg (fun l hl=>hL l (List.mem_cons_of_mem _ hl)) (by rw [List.length_append,List.length_singleton];omega) ?_
   cases hh:zJG x (p ++ [l.getD k zFE]) with
   | false=>rfl
   | true=>rw [zJN hw hg (by rw [List.length_append,List.length_singleton];omega) hh] at hf;cases hf
  ·rfl
theorem zKa {x:zOw} (hw:zAo x.crew=true):∀ {L:List (List POption)} {p:List POption} {ch:List Nat},(∀ o ∈ p,zJb x.chart x.fleet o.pas)→(∀ l ∈ L,∀ o ∈ l,zJb x.chart x.fleet o.pas)→p.length+L.length≤12→zJG x p=true→zJ6 x L p ch=zJV x L p ch
 | [],p,ch,hp,hL,h12,hf=>by
  rw [zJ6,zJV,show zJo p=p.map (·.pas) from rfl,zJL hw hp (by rw [List.length_nil] at h12;omega),hf,if_pos rfl]
 | l :: L,p,ch,hp,hL,h12,hf=>by
  rw [zJ6,zJV]
  rw [List.length_cons] at h12
  have key:∀ k ∈ List.range l.length,(if zJS x p (l.getD k zFE)=true then zJ6 x L (p ++ [l.getD k zFE]) (ch ++ [k]) else [])=(if zJT x p (l.getD k zFE)=true then zJV x L (p ++ [l.getD k zFE]) (ch ++ [k]) else []):=fun k hk=>by
   have hk:=List.mem_range.1 hk
   have hg:∀ o ∈ p ++ [l.getD k zFE],zJb x.chart x.fleet o.pas:=fun o ho=>by
    rcases List.mem_append.1 ho with ho|ho
    ·exact hp o ho
    ·rw [List.mem_singleton.1 ho];exact hL l (List.mem_cons_self ..) _ (zJX hk)
   have h13:(p ++ [l.getD k zFE]).length+L.length≤12:=by rw [List.length_append,List.length_singleton];omega
   have hL2:∀ l ∈ L,∀ o ∈ l,zJb x.chart x.fleet o.pas:=fun l hl=>hL l (List.mem_cons_of_mem _ hl)
   rw [zJT]
   cases hh:zJG x (p ++ [l.getD k zFE]) with
   | false =>
    rw [Bool.and_false,if_neg Bool.false_ne_true,zJ9 hw hg hL2 h13 hh]
    split <;> rfl
   | true=>rw [Bool.and_true,zKa hw hg hL2 h13 hh]
  rw [List.flatMap_def,List.flatMap_def,List.map_congr_left key]
theorem zKb {x:zOw}:∀ {L:List (List POption)} {p:List POption} {ch:List Nat},[] ∈ L→zJV x L p ch=[]
 | l :: L,p,ch,h=>by
  rw [zJV]
  rcases List.mem_cons.1 h with h|h
  ·rw [← h];rfl
  ·rw [List.flatMap_eq_nil_iff]
   intro k hk
   split
   ·exact zKb h
   ·rfl
noncomputable def zKc (x:zOw) (L:List (List POption)):BSt:=open Classical in if [] ∈ L then none else srS x L [] [] none
theorem zKd {x:zOw} {L:List (List POption)} (hw:zAo x.crew=true) (hL:∀ l ∈ L,∀ o ∈ l,zJb x.chart x.fleet o.pas) (hc:∀ l ∈ L,∀ o ∈ l,0≤o.cost) (h12:L.length≤12):zKc x L=srI x L [] [] none:=by
 rw [zKc,zJ2 hc]
 split
 ·rename_i h;rw [zKb h];rfl
 ·rw [zJ8,zKa hw (fun o ho=>by cases ho) hL (by simpa using h12) (zJM hw)]
def zKe (r:BSt):List Int × Int × Bool:=match r with
 | none=>([],0,false)
 | some (w,c)=>(zs w,c,true)
def zKf (x:zOw) (calls:List DCall):List Int × Int × Bool:=if zAP x calls=true then zKe (srI x (zJu x calls) [] [] none) else ([],0,false)
theorem zKg (p:Int) (m:Sl Int) (d:Sl DDuty) (k:Int) (h:Hp) (hm:m.Ok h) (hd:d.Ok h):Ct jV 210 [.int .i64 p,m.val,d.val,.int .i64 k] h fun v h'=>v=.bool (zJC p m.l d.l k)∧h'=h:=by
 have hl:=hd.max
 refine Ct.forget ?_
 refine zdn (fun A W=>by simp) Tryz.func210 rfl rfl (by simp) fun W0=>?_
 refine Wk ?_
 refine zc9 rfl (fun hq=>?_) (fun hq=>?_)
 ·refine Wk ?_
  rw [zJC,decide_eq_true (of_decide_eq_true hq)];rfl
 ·refine Wk ?_
  refine zkr (zIG p m d _ hm hd) rfl ?_
  rintro v h2 le2 ⟨s2,rfl,e2,ok2,m2⟩
  refine Wk ?_
  rw [zJC,decide_eq_false (p:=(d.l.length:Int)≤k) (of_decide_eq_false hq),Bool.false_or];rfl
theorem zKh (a:Sl DOption) (h:Hp) (ha:a.Ok h) (hz:a.l.length≤1048576):Ct jV 159 [a.val] h fun v h'=>∃ s:Sl DOption,v=s.val∧s.l=a.l∧RowAt 149 h' s∧∀ g,s.a=some ⟨g,0,none⟩→h g=none:=by
 have hall:=ha.all (by decide)
 have hd:(h.ldL a.val 4).isSome=true:=by rw [show h.ldL a.val 4=_ from hall];rfl
 refine zdn (fun A W=>by simp) Tryz.func159 rfl rfl (by simp) fun W0=>?_
 repeat' first|refine Wa ?_|(simp only [go_sem,jq,jj,jy,jv,jk,jx,hall,show h.ldL a.val 4=some (a.l.flatMap Enc.enc) from hall,Option.isSome_some,Option.getD_some];try rfl)|refine Wb ?_|fail
 refine ⟨by simp only [maxLen];omega,by omega,?_⟩
 repeat' first|refine Wa ?_|(simp only [go_sem,jq,jj,jy,jv,jk,jx,hall,show h.ldL a.val 4=some (a.l.flatMap Enc.enc) from hall,Option.isSome_some,Option.getD_some];try rfl)|refine Wb ?_|fail
 refine ⟨fun u hu=>by obtain ⟨x,_,hx⟩:=List.mem_flatMap.1 hu;exact Enc.one x u hx,by simp only [maxLen];omega,by omega,?_⟩
 refine zCP 1 a.l rfl rfl (Nat.zero_add _) rfl fun s h' e1 R f1 l1 k1=>?_
 refine Wk ?_
 exact ⟨s,rfl,e1,R,f1⟩
theorem zKi {l:List DOption}:(l.map (Con.con (α:=DOption))).flatMap (·.pas)=l.flatMap (·.pas.l):=by
 rw [List.flatMap_map,List.flatMap_def,List.flatMap_def]
 exact congrArg List.flatten (List.map_congr_left fun o _=>zEf _)
theorem zKj {o:DOption}:(Con.con o).pas=o.pas.l:=zEf _
theorem zKk {c:zOv} {l:List POption} {o:POption} (h:0 < o.pas.length):pilD c (l ++ [o])=pilD c l ++ [zD8 c (o.pas.getD 0 dQ) (o.pas.getD (o.pas.length - 1) dQ)]:=by
 rw [pilD,List.filter_append,List.map_append]
 simp [pilD,h]
theorem zKl {c:DChart} {l:List DOption} {h:Hp} {f:List DShip} (hc:Enc.ok h c) (hl:∀ o ∈ l,Enc.ok h o) (hg:∀ o ∈ l,zJb (Con.con c) f o.pas.l):∀ d ∈ pilD (Con.con c) (l.map Con.con),Enc.ok h d:=fun d hd=>by
 obtain ⟨y,hy,rfl⟩:=List.mem_map.1 hd
 obtain ⟨o,ho,rfl⟩:=List.mem_map.1 (List.mem_filter.1 hy).1
 obtain ⟨h1,h2,h3⟩:=hg o ho
 have:=zEg (f:=f) (h2:=h) hc (hl o ho).2.2.2
 rw [zEf,zEb h1 h2 h3] at this
 rw [zKj]
 exact this
set_option maxRecDepth 30000 in
theorem zKm (x:DHarbour) (a:Sl DOption) (h:Hp) (hx:Enc.ok h x) (ha:a.Ok h) (hg:∀ o ∈ a.l,zJb (Con.con x.chart) x.fleet.l o.pas.l) (hz:(a.l.flatMap (·.pas.l)).length≤1048576) (hz2:a.l.length≤1048576):Ct jV 158 [x.v,a.val] h fun v h'=>v=.bool (zJG (Con.con x) (a.l.map Con.con))∧h'=h:=by
 have hl:=ha.max
 refine Ct.forget ?_
 refine zdn (fun A W=>by simp) Tryz.func158 rfl rfl (by simp) fun W0=>?_
 refine Wk ?_
 refine zm1 (ι:=Nat) (fun k=>⟨[(2,true,.c (.p 0 0)),(4,true,.c (.v (.bool false))),(5,true,.c (.s 1)),(6,true,.c (.s 2)),(13,true,.c (.v a.val)),(14,true,.c (.v (.int .i64 a.l.length))),(15,true,.c (.v (.int .i64 k)))],[(0,.box 58 [.v (.int .i64 x.forecast.tide.mean),.v x.forecast.tide.parts.val,.v x.forecast.surges.val,.v x.chart.points.val,.v x.chart.segments.val,.v x.fleet.val,.v (.int .i64 x.regime.gap),.v (.bool x.regime.noMeet),.v (.int .i64 x.crew.tugs),.v (.int .i64 x.crew.pilots),.v (.int .i64 x.crew.rest),.v x.crew.moves.val]),(1,.row 154 5 ((a.l.take k).flatMap (·.pas.l)).length (((a.l.take k).flatMap (·.pas.l)).flatMap Enc.enc)),(2,.row 265 4 (pilD (Con.con x.chart) ((a.l.take k).map Con.con)).length ((pilD (Con.con x.chart) ((a.l.take k).map Con.con)).flatMap Enc.enc))],h,3⟩) (fun k=>k≤a.l.length) (fun k=>a.l.length - k) 0 (Nat.zero_le _) [0,1,2] ?_ ?_
 ·refine Evs ?_
  exact Gk
 intro k hk
 refine Wk ?_
 refine zc9 rfl (fun hd=>?_) (fun hd=>?_)
 ·have hlt:=zjH hd
  have hok:=ha.el hlt
  have hop:a.l[k].pas.Ok h:=hok.2.2.2
  have hall:h.ldL a.l[k].pas.val 5=some (a.l[k].pas.l.flatMap Enc.enc):=Sl.Ok.all hop (by decide)
  have hfl:(a.l.take (k+1)).flatMap (·.pas.l)=(a.l.take k).flatMap (·.pas.l) ++ a.l[k].pas.l:=by rw [List.take_succ_eq_append_getElem hlt,List.flatMap_append];simp
  have hle:((a.l.take (k+1)).flatMap (·.pas.l)).length≤(a.l.flatMap (·.pas.l)).length:=by
   rw [← List.take_append_drop (k+1) a.l,List.flatMap_append,List.take_append_drop,List.length_append];omega
  rw [hfl,List.length_append] at hle
  obtain ⟨h0,hC,hP⟩:=hg _ (List.getElem_mem hlt)
  have hpm:=hop.max
  have hpl:=zJJ (c:=Con.con x.chart) (l:=(a.l.take k).map Con.con)
  rw [List.length_map,List.length_take] at hpl
  repeat' first|refine Wa ?_|(simp only [go_sem,jq,jj,jy,jv,jk,jx,zkZ ha hlt,ha.some hlt,hlt,jW];try rfl)|refine Wb ?_|fail
  simp only [hall,Option.isSome_some,Option.getD_some,← hfl,← List.flatMap_append,← List.length_append]
  refine ⟨trivial,fun u hu=>zI5 hu,by simp only [maxLen];rw [hfl,List.length_append];omega,by rw [hfl,List.length_append];omega,?_⟩
  refine Wk ?_
  refine zc9 rfl (fun hq=>?_) (fun hq=>?_)
  case refine_2=>exact absurd (of_decide_eq_false hq) (by omega)
  have hn1:a.l[k].pas.l.length - 1 < a.l[k].pas.l.length:=by omega
  have hwn:IntKind.i64.wrap ((a.l[k].pas.l.length:Int) - 1)=((a.l[k].pas.l.length - 1:Nat):Int):=by rw [zjz (by omega)];omega
  obtain ⟨g1,g2⟩:=zEc hC h0
  obtain ⟨g3,g4⟩:=zEc hC hn1
  have h0i:(0:Int) < a.l[k].pas.l.length:=by omega
  have ha0:=Sl.Ok.some hop h0
  have hs0:=zkV hop h0
  have hs1:=zmP hop h0
  simp only [go_sem,Nat.zero_mul] at hs0 hs1
  refine Wk ?_
  refine zyW rfl ?_
  refine U_t [0,1,3,7,9,2,4,8,10,5,11,6,12,13,14] rfl ?_
  simp only [go_sem,jq,jj,jy,jv,jk,jx,ha0,hs0,hs1,h0i,Int.toNat_zero,Nat.zero_mul,Int.le_refl,implies_true,true_and,and_true,zkV hop hn1,Sl.Ok.some hop hn1,hn1,jW,hwn,zkZ ha hlt,ha.some hlt,hlt]
  refine U_1 15 0 [] rfl rfl ?_
  simp only [go_sem,jq,jj,jy,jv,jk,jx,ha0,hs0,hs1,h0i,Int.toNat_zero,Nat.zero_mul,Int.le_refl,implies_true,true_and,and_true,zkV hop hn1,Sl.Ok.some hop hn1,hn1,jW,hwn,zkZ ha hlt,ha.some hlt,hlt]
  refine zhF (fun _=>zEd x.chart _ _ _ hx.2.1 g1 g2 g3 g4) ?_
  simp only [go_sem,jq,jj,jy,jv,jk,jx,ha0,hs0,hs1,h0i,Int.toNat_zero,Nat.zero_mul,Int.le_refl,implies_true,true_and,and_true,zkV hop hn1,Sl.Ok.some hop hn1,hn1,jW,hwn,zkZ ha hlt,ha.some hlt,hlt]
  refine U_1 16 0 [] rfl rfl ?_
  simp only [go_sem,jq,jj,jy,jv,jk,jx,ha0,hs0,hs1,h0i,Int.toNat_zero,Nat.zero_mul,Int.le_refl,implies_true,true_and,and_true,zkV hop hn1,Sl.Ok.some hop hn1,hn1,jW,hwn,zkZ ha hlt,ha.some hlt,hlt]
  refine U_1 17 0 [] rfl rfl ?_
  simp only [go_sem,jq,jj,jy,jv,jk,jx,ha0,hs0,hs1,h0i,Int.toNat_zero,Nat.zero_mul,Int.le_refl,implies_true,true_and,and_true,zkV hop hn1,Sl.Ok.some hop hn1,hn1,jW,hwn,zkZ ha hlt,ha.some hlt,hlt]
  refine ⟨by simp only [maxLen];omega,by omega,?_⟩
  refine U_t [18] rfl ?_
  simp only [go_sem,jq,jj,jy,jv,jk,jx,ha0,hs0,hs1,h0i,Int.toNat_zero,Nat.zero_mul,Int.le_refl,implies_true,true_and,and_true,zkV hop hn1,Sl.Ok.some hop hn1,hn1,jW,hwn,zkZ ha hlt,ha.some hlt,hlt]
  refine U_d ?_
  refine Wk ?_
  have hpd:pilD (Con.con x.chart) ((a.l.take (k+1)).map Con.con)=pilD (Con.con x.chart) ((a.l.take k).map Con.con) ++ [zD8 (Con.con x.chart) a.l[k].pas.l[0] a.l[k].pas.l[a.l[k].pas.l.length - 1]]:=by
   rw [List.take_succ_eq_append_getElem hlt,List.map_append,List.map_cons,List.map_nil,zKk (by rw [zKj];exact h0),zKj]
   simp [List.getD_eq_getElem?_getD,h0,hn1]
  refine ⟨k+1,[0,4,6],hlt,by omega,?_⟩
  refine Evs ?_
  rw [hpd,List.flatMap_append,List.length_append]
  exact Gi (zjA hlt (by omega))
 ·have hge:=zjI hd
  have hke:k=a.l.length:=by omega
  rw [hke,List.take_length]
  refine zc6 ?_
  refine Evs ?_
  refine zl5 1 (a.l.flatMap (·.pas.l)) rfl rfl rfl rfl (by decide) (fun y hy=>?_) h (Hp.le_refl _) (Mines.flat (fun _=>rfl) (fun _=>trivial)) fun s h' e1 e2 e3 e4=>?_
  ·obtain ⟨z,hz,hy⟩:=List.mem_flatMap.1 hy
   exact (ha.2.2.2.1 z hz).2.2.2.2.2.2.1 y hy
  have hx1:Enc.ok h' x:=Enc.mono e3 hx
  refine zl5 2 (pilD (Con.con x.chart) (a.l.map Con.con)) rfl rfl rfl rfl (by decide) (zKl hx1.2.1 (fun o ho=>Enc.mono e3 (ha.2.2.2.1 o ho)) hg) h e3 (Mines.flat (fun _=>rfl) (fun _=>trivial)) fun d h2 d1 d2 d3 d4=>?_
  have hx2:Enc.ok h2 x:=Enc.mono d3 hx1
  refine Wk ?_
  refine zkr (zGD x.chart x.fleet s _ hx2.2.1 hx2.2.2.1 (e2.mono d3)) rfl ?_
  rintro v h3 le3 ⟨t,rfl,et,okt,mt⟩
  have hx3:Enc.ok h3 x:=Enc.mono le3 hx2
  have hfc:zGt (Con.con x).chart (Con.con x).fleet ((a.l.map Con.con).flatMap (·.pas))=zGt (Con.con x.chart) x.fleet.l s.l:=by
   rw [zKi,e1,show (Con.con x).fleet=x.fleet.l from zz2 _];rfl
  have hcw:(Con.con x).crew.moves=x.crew.moves.l:=zIQ x.crew
  have okd:=d2.mono le3
  rw [zJG,hfc,hcw]
  cases htd:zGt (Con.con x.chart) x.fleet.l s.l with
  | none =>
   refine Evs ?_
   refine Wk ?_
   refine zhF (V:=.bool false) (fun e=>by cases e) ?_
   refine Evs ?_
   refine Wk ?_
   refine zhF (V:=.bool false) (fun e=>by cases e) ?_
   refine Evs ?_
   exact Wk0
  | some dl =>
   rw [htd] at et
   have et:t.l=dl:=et
   refine Evs ?_
   refine Wk ?_
   refine zhF (fun _=>zKg 0 x.crew.moves t x.crew.tugs _ hx3.2.2.2.2.2.2.2 okt) ?_
   refine Evs ?_
   refine Wk ?_
   refine zhF (fun _=>zKg x.crew.rest x.crew.moves d x.crew.pilots _ hx3.2.2.2.2.2.2.2 okd) ?_
   refine Evs ?_
   refine Wk ?_
   rw [et,d1];rfl
theorem zKn {x:DHarbour} {l:List DOption} {o:DOption}:zJS (Con.con x) (l.map Con.con) (Con.con o)=!(l.any fun p=>zBa (Con.con x.chart) x.regime p.pas.l o.pas.l):=by
 rw [zJS,List.any_map]
 congr 2
 funext p
 simp only [Function.comp,zKj]
 rfl
theorem zKo {α:Type} {f:α→Bool} {l:List α} {k:Nat} (hk:k < l.length) (h0:(l.take k).any f=false) (h1:f l[k]=false):(l.take (k+1)).any f=false:=by
 rw [zBb hk,h0,h1];rfl
set_option maxRecDepth 30000 in
theorem zKp (x:DHarbour) (a:Sl DOption) (o:DOption) (h:Hp) (hx:Enc.ok h x) (ha:a.Ok h) (ho:Enc.ok h o) (hr:zAm x.regime=true) (hg:∀ p ∈ a.l ++ [o],zJb (Con.con x.chart) x.fleet.l p.pas.l) (hz:((a.l ++ [o]).flatMap (·.pas.l)).length≤1048576) (hz2:a.l.length≤1000):Ct jV 106 [x.v,a.val,o.v] h fun v h'=>v=.bool (zJT (Con.con x) (a.l.map Con.con) (Con.con o))∧h'=h:=by
 have hl:=ha.max
 refine Ct.forget ?_
 refine zdn (fun A W=>by simp) Tryz.func106 rfl rfl (by simp) fun W0=>?_
 refine Wk ?_
 refine zm1 (ι:=Nat) (fun k=>⟨[(1,true,.c (.v a.val)),(3,true,.c (.p 0 0)),(5,true,.c (.p 1 0)),(6,true,.c (.v (.bool false))),(9,true,.c (.v a.val)),(10,true,.c (.v (.int .i64 a.l.length))),(11,true,.c (.v (.int .i64 k)))],[(0,.box 58 [.v (.int .i64 x.forecast.tide.mean),.v x.forecast.tide.parts.val,.v x.forecast.surges.val,.v x.chart.points.val,.v x.chart.segments.val,.v x.fleet.val,.v (.int .i64 x.regime.gap),.v (.bool x.regime.noMeet),.v (.int .i64 x.crew.tugs),.v (.int .i64 x.crew.pilots),.v (.int .i64 x.crew.rest),.v x.crew.moves.val]),(1,.box 149 [.v (.int .i64 o.start),.v (.int .i64 o.arr),.v (.int .i64 o.cost),.v o.pas.val])],h,2⟩) (fun k=>k≤a.l.length∧((a.l.take k).any fun p=>zBa (Con.con x.chart) x.regime p.pas.l o.pas.l)=false) (fun k=>a.l.length - k) 0 ⟨Nat.zero_le _,rfl⟩ [0,1] ?_ ?_
 ·refine Evs ?_
  exact Gk
 rintro k ⟨hk,hno⟩
 refine Wk ?_
 refine zc9 rfl (fun hd=>?_) (fun hd=>?_)
 ·have hlt:=zjH hd
  repeat' first|refine Wa ?_|refine zhF (fun _=>zGe x.chart x.regime a.l[k].pas o.pas _ hx.2.1 hr (ha.el hlt).2.2.2 ho.2.2.2) ?_|(simp only [go_sem,jq,jj,jy,jv,jk,jx,zkZ ha hlt,ha.some hlt,hlt,jW];try rfl)|refine Wb ?_|fail
  refine zc9 rfl (fun hq=>?_) (fun hq=>?_)
  ·refine Wk ?_
   rw [zJT,zKn,zBc (f:=fun p=>zBa (Con.con x.chart) x.regime p.pas.l o.pas.l) hlt hq]
   rfl
  ·refine Wk ?_
   refine ⟨k+1,[0,1],⟨hlt,zKo hlt hno hq⟩,by omega,?_⟩
   refine Evs ?_
   exact Gi (zjA hlt (by omega))
 ·have hge:=zjI hd
  have hke:k=a.l.length:=by omega
  rw [hke,List.take_length] at hno
  refine zc6 ?_
  refine Evs ?_
  refine zc3 ?_
  refine zyW rfl ?_
  refine U_t [0,1,3] rfl ?_
  refine Evs ?_
  refine U_m 2 [4] ⟨?_,?_,trivial⟩
  ·refine U_b 2 0 [3,0] rfl rfl ?_
   refine Evs ?_
   refine zkr (zKh a _ ha (by omega)) rfl ?_
   rintro v h1 le1 ⟨q,rfl,eq1,Rq,fq⟩
   refine Evs ?_
   refine U_1 4 0 [0] rfl rfl ?_
   refine Evs ?_
   refine U_1 5 3 [0] rfl rfl ?_
   refine Evs ?_
   refine zCQ (s:=q) rfl Rq (fun g hg=>.inl (fq g hg)) ?_
   refine Evs ?_
   refine ⟨rfl,by rw [eq1];simp only [maxLen];omega,by rw [eq1];omega,fun ad cap h2 P=>?_⟩
   have P':Pub (zCO h1 q) 149 (Enc.size DOption) (q.l ++ [o]).length ((q.l ++ [o]).flatMap Enc.enc) ad cap h2:=by
    rw [List.length_append,List.flatMap_append];exact P
   have led:h.le (zCO h1 q):=zCR le1 fq Rq.addr
   have k2:(Sl.mk ad cap (q.l ++ [o])).Ok h2:=Pub.sl (by decide) P' fun y hy=>by
    rcases List.mem_append.1 hy with hy|hy
    ·exact Enc.mono led (ha.2.2.2.1 y (by rw [← eq1];exact hy))
    ·rw [List.mem_singleton.1 hy];exact Enc.mono led ho
   have le2:h.le h2:=Hp.le_trans led P'.le
   rw [show Value.slice ad (q.l.length+1) cap=(Sl.mk ad cap (q.l ++ [o])).val from by simp only [Sl.val,List.length_append,List.length_singleton]]
   try simp only [go_sem,jq,jj,jy,jv,jk,jx]
   refine U_1 6 0 [] rfl rfl ?_
   refine Evs ?_
   refine zhF (fun _=>zKm x ⟨ad,cap,q.l ++ [o]⟩ _ (Enc.mono le2 hx) k2 (by rw [eq1];exact hg) (by rw [eq1];exact hz) (by rw [eq1,List.length_append,List.length_singleton];omega)) ?_
   try simp only [go_sem,jq,jj,jy,jv,jk,jx]
   rw [eq1,List.map_append]
   refine U_t [7] rfl ?_
   refine Evs ?_
   refine U_d ?_
   refine Wk ?_
   rw [zJT,zKn,hno]
   rfl
  ·refine U_b 4 0 [0] rfl rfl ?_
   refine Evs ?_
   refine U_1 2 0 [0] rfl rfl ?_
   refine Evs ?_
   refine zkr (zKh a _ ha (by omega)) rfl ?_
   rintro v h1 le1 ⟨q,rfl,eq1,Rq,fq⟩
   refine Evs ?_
   refine U_1 5 3 [0] rfl rfl ?_
   refine Evs ?_
   refine zCQ (s:=q) rfl Rq (fun g hg=>.inl (fq g hg)) ?_
   refine Evs ?_
   refine ⟨rfl,by rw [eq1];simp only [maxLen];omega,by rw [eq1];omega,fun ad cap h2 P=>?_⟩
   have P':Pub (zCO h1 q) 149 (Enc.size DOption) (q.l ++ [o]).length ((q.l ++ [o]).flatMap Enc.enc) ad cap h2:=by
    rw [List.length_append,List.flatMap_append];exact P
   have led:h.le (zCO h1 q):=zCR le1 fq Rq.addr
   have k2:(Sl.mk ad cap (q.l ++ [o])).Ok h2:=Pub.sl (by decide) P' fun y hy=>by
    rcases List.mem_append.1 hy with hy|hy
    ·exact Enc.mono led (ha.2.2.2.1 y (by rw [← eq1];exact hy))
    ·rw [List.mem_singleton.1 hy];exact Enc.mono led ho
   have le2:h.le h2:=Hp.le_trans led P'.le
   rw [show Value.slice ad (q.l.length+1) cap=(Sl.mk ad cap (q.l ++ [o])).val from by simp only [Sl.val,List.length_append,List.length_singleton]]
   try simp only [go_sem,jq,jj,jy,jv,jk,jx]
   refine U_1 6 0 [] rfl rfl ?_
   refine Evs ?_
   refine zhF (fun _=>zKm x ⟨ad,cap,q.l ++ [o]⟩ _ (Enc.mono le2 hx) k2 (by rw [eq1];exact hg) (by rw [eq1];exact hz) (by rw [eq1,List.length_append,List.length_singleton];omega)) ?_
   try simp only [go_sem,jq,jj,jy,jv,jk,jx]
   rw [eq1,List.map_append]
   refine U_t [7] rfl ?_
   refine Evs ?_
   refine U_d ?_
   refine Wk ?_
   rw [zJT,zKn,hno]
   rfl
theorem zKq {x:zOw} {calls:List DCall} (h:zAP x calls=true):zAm x.regime=true∧zz9 x.chart=true:=by
 rw [zAP,zAp] at h
 simp only [jJ] at h
 exact ⟨h.1.1.1.2,h.1.1.1.1.1.2⟩
theorem zO5 {p:Sl DOption} (hz:Sz.sz (Con.con p)≤1048576):(∀ {k:Nat} (hk:k < p.l.length),Sz.sz (Con.con p.l[k])≤1048576)∧(p.l.flatMap (·.pas.l)).length≤1048576:=by
 have hl:(Con.con p).length=p.l.length:=List.length_map ..
 have hs:=znw (l:=Con.con p)
 rw [hs] at hz
 have key:∀ (l:List DOption) (B:Nat),((l.map (Con.con (α:=DOption))).map Sz.sz).sum≤B→(∀ {k:Nat} (hk:k < l.length),Sz.sz (Con.con l[k])≤B)∧(l.flatMap (·.pas.l)).length≤B:=by
  intro l
  induction l with
  | nil=>intro B _;exact ⟨fun {k} hk=>(by cases hk),Nat.zero_le _⟩
  | cons o l ih =>
   intro B hB
   rw [List.map_cons,List.map_cons,List.sum_cons] at hB
   have ho:o.pas.l.length≤Sz.sz (Con.con o):=by
    have h2:Sz.sz (Con.con o)=Sz.sz (Con.con o.pas):=rfl
    have:=znx (Nat.le_of_eq h2.symm)
    rwa [znA] at this
   obtain ⟨i1,i2⟩:=ih (B - Sz.sz (Con.con o)) (by omega)
   refine ⟨fun {k} hk=>?_,?_⟩
   ·cases k with
    | zero=>show Sz.sz (Con.con o)≤B;omega
    | succ k =>
     have hk':k < l.length:=by simpa using hk
     have:=i1 hk'
     show Sz.sz (Con.con (l[k]'hk'))≤B
     omega
   ·rw [List.flatMap_cons,List.length_append];omega
 obtain ⟨k1,k2⟩:=key p.l 1048576 (by show (List.map Sz.sz (Con.con p)).sum≤_;omega)
 exact ⟨k1,k2⟩
set_option maxRecDepth 30000 in
theorem zO6 (x:DHarbour) (a:Sl DCall) (p:Sl DOption) (h:Hp) (hx:Enc.ok h x) (ha:a.Ok h) (hp:p.Ok h) (hz:Sz.sz (Con.con p)≤1048576):Ct jV 48 [x.v,a.val,p.val] h fun v h'=>v=.bool (zO3 (Con.con x) (Con.con a) (Con.con p))∧h'=h:=by
 have hla:=ha.max
 have hlp:=hp.max
 obtain ⟨hsz,hsf⟩:=zO5 hz
 rw [zAQ,show Con.con p=p.l.map Con.con from rfl,zO3]
 refine Ct.forget ?_
 refine zdn (fun A W=>by simp) Tryz.func48 rfl rfl (by simp) fun W0=>?_
 repeat' first|refine Wa ?_|refine zhF (fun _=>zAS x a _ hx ha) ?_|(simp only [go_sem,jq,jj,jy,jv,jk,jx];try rfl)|refine Wb ?_|fail
 rw [zAQ]
 refine zc9 rfl (fun hc=>?_) (fun hc=>?_)
 ·refine Wk ?_
  rcases (jQ _ _).mp hc with h1|h1
  ·rw [Bool.not_eq_true'] at h1;rw [h1];rfl
  ·rw [decide_eq_false (p:=(p.l.map (Con.con (α:=DOption))).length=a.l.length) (by have:=zjD h1;rw [List.length_map];omega),Bool.and_false];rfl
 obtain ⟨hH,h6⟩:=Bool.or_eq_false_iff.1 hc
 rw [Bool.not_eq_false'] at hH
 have hlen:p.l.length=a.l.length:=by have:=zjE h6;omega
 have h6:=zJy hH
 obtain ⟨hR,hC⟩:=zKq hH
 have hR:zAm x.regime=true:=hR
 rw [hH,decide_eq_true (show (p.l.map (Con.con (α:=DOption))).length=a.l.length by rw [List.length_map];exact hlen),Bool.and_self,Bool.true_and]
 refine Wk ?_
 refine zm1 (ι:=Nat) (fun k=>⟨[(2,true,.c (.v p.val)),(3,true,.c (.p 0 0)),(6,true,.c (.v (.bool false))),(20,true,.c (.v a.val)),(21,true,.c (.v (.int .i64 a.l.length))),(22,true,.c (.v (.int .i64 k)))],[(0,.box 58 [.v (.int .i64 x.forecast.tide.mean),.v x.forecast.tide.parts.val,.v x.forecast.surges.val,.v x.chart.points.val,.v x.chart.segments.val,.v x.fleet.val,.v (.int .i64 x.regime.gap),.v (.bool x.regime.noMeet),.v (.int .i64 x.crew.tugs),.v (.int .i64 x.crew.pilots),.v (.int .i64 x.crew.rest),.v x.crew.moves.val])],h,1⟩) (fun k=>k≤a.l.length∧∀ i,i < k→ipAt (Con.con x) a.l (p.l.map Con.con) i=true) (fun k=>a.l.length - k) 0 ⟨Nat.zero_le _,zAe⟩ [0] ?_ ?_
 ·refine Evs ?_
  exact Gk
 rintro k ⟨hk,hip⟩
 refine Wk ?_
 refine zc9 rfl (fun hd=>?_) (fun hd=>?_)
 ·have hlt:=zjH hd
  have hltp:k < p.l.length:=by omega
  have hltpi:(k:Int) < p.l.length:=by omega
  have hpk:k≤p.l.length:=by omega
  have hcap:k≤p.cap:=by have:=hp.1;omega
  have hcapi:(k:Int)≤p.cap:=by omega
  have hfl:(Con.con x).fleet=x.fleet.l:=zz2 _
  have hge:a.l.getD k dC=a.l[k]:=cget hlt
  have hgp:(p.l.map (Con.con (α:=DOption))).getD k zFE=Con.con p.l[k]:=by simp [List.getD_eq_getElem?_getD,hltp]
  have htk:(p.to k).l.map (Con.con (α:=DOption))=(p.l.map Con.con).take k:=(show (p.l.take k).map (Con.con (α:=DOption))=_ from List.map_take)
  have good:zOX (Con.con x) (Con.con a.l[k]) (Con.con p.l[k])=true→∀ q ∈ (p.to k).l ++ [p.l[k]],zJb (Con.con x.chart) x.fleet.l q.pas.l:=fun hio q hq=>by
   have key:∀ i,i≤k→∀ hi:i < p.l.length,zJb (Con.con x.chart) x.fleet.l p.l[i].pas.l:=fun i hik hi=>by
    have hai:i < a.l.length:=by omega
    have hgi:(p.l.map (Con.con (α:=DOption))).getD i zFE=Con.con p.l[i]:=by simp [List.getD_eq_getElem?_getD,hi]
    have h9:zOX (Con.con x) a.l[i] (Con.con p.l[i])=true:=by
     rcases Nat.lt_or_ge i k with h8|h8
     ·have:=hip i h8
      rw [ipAt,jJ,hgi,cget hai] at this
      exact this.1
     ·obtain rfl:i=k:=by omega
      exact hio
    have:=zO0 h9
    rw [zKj] at this
    exact this
   rcases List.mem_append.1 hq with hq|hq
   ·obtain ⟨i,hi,rfl⟩:=List.getElem_of_mem hq
    have hik:i < k:=by rw [Sl.to_len (by omega)] at hi;exact hi
    rw [Sl.to_get hi (by omega)]
    exact key i (by omega) (by omega)
   ·rw [List.mem_singleton.1 hq];exact key k (Nat.le_refl _) hltp
  have szs:∀ (hk2:k < p.l.length),(((p.to k).l ++ [p.l[k]]).flatMap (·.pas.l)).length≤1048576:=fun hk2=>by
   rw [show (p.to k).l ++ [p.l[k]]=p.l.take (k+1) from (List.take_succ_eq_append_getElem hk2).symm]
   refine Nat.le_trans ?_ hsf
   rw [← List.take_append_drop (k+1) p.l,List.flatMap_append,List.take_append_drop,List.length_append]
   exact Nat.le_add_right _ _
  repeat' first|refine Wa ?_|(simp only [go_sem,jq,jj,jy,jv,jk,jx,zkT ha hlt,ha.some hlt,hlt,jW];try rfl)|refine Wb ?_|fail
  refine zyW rfl ?_
  refine U_t [0,1,2,3,4,5] rfl ?_
  simp only [go_sem,jq,jj,jy,jv,jk,jx,zkT ha hlt,ha.some hlt,hlt,zkZ hp hltp,hp.some hltp,hltp,hltpi,jW,jY,Int.toNat_zero,Nat.sub_zero,Nat.zero_mul,zx1,zx2,ite_self,hcapi,hcap,zx3 hpk,implies_true,true_and,and_true,and_self]
  refine U_1 6 0 [] rfl rfl ?_
  simp only [go_sem,jq,jj,jy,jv,jk,jx,zkT ha hlt,ha.some hlt,hlt,zkZ hp hltp,hp.some hltp,hltp,hltpi,jW,jY,Int.toNat_zero,Nat.sub_zero,Nat.zero_mul,zx1,zx2,ite_self,hcapi,hcap,zx3 hpk,implies_true,true_and,and_true,and_self]
  refine zhF (fun _=>zOZ x a.l[k] p.l[k] _ hx (ha.el hlt) (hp.el hltp) (hsz hltp)) ?_
  simp only [go_sem,jq,jj,jy,jv,jk,jx,zkT ha hlt,ha.some hlt,hlt,zkZ hp hltp,hp.some hltp,hltp,hltpi,jW,jY,Int.toNat_zero,Nat.sub_zero,Nat.zero_mul,zx1,zx2,ite_self,hcapi,hcap,zx3 hpk,implies_true,true_and,and_true,and_self]
  refine U_t [7,8,9,10,11,13,14,15,16] rfl ?_
  simp only [go_sem,jq,jj,jy,jv,jk,jx,zkT ha hlt,ha.some hlt,hlt,zkZ hp hltp,hp.some hltp,hltp,hltpi,jW,jY,Int.toNat_zero,Nat.sub_zero,Nat.zero_mul,zx1,zx2,ite_self,hcapi,hcap,zx3 hpk,implies_true,true_and,and_true,and_self]
  refine U_1 12 0 [16,15,9] rfl rfl ?_
  simp only [go_sem,jq,jj,jy,jv,jk,jx,zkT ha hlt,ha.some hlt,hlt,zkZ hp hltp,hp.some hltp,hltp,hltpi,jW,jY,Int.toNat_zero,Nat.sub_zero,Nat.zero_mul,zx1,zx2,ite_self,hcapi,hcap,zx3 hpk,implies_true,true_and,and_true,and_self]
  refine U_1 17 0 [] rfl rfl ?_
  simp only [go_sem,jq,jj,jy,jv,jk,jx,zkT ha hlt,ha.some hlt,hlt,zkZ hp hltp,hp.some hltp,hltp,hltpi,jW,jY,Int.toNat_zero,Nat.sub_zero,Nat.zero_mul,zx1,zx2,ite_self,hcapi,hcap,zx3 hpk,implies_true,true_and,and_true,and_self]
  refine zhF (fun hio=>zKp x (p.to k) p.l[k] _ hx (Sl.to_ok hp k) (hp.el hltp) hR (good (by simpa using hio)) (szs hltp) (by rw [Sl.to_len (by omega)];omega)) ?_
  simp only [go_sem,jq,jj,jy,jv,jk,jx,zkT ha hlt,ha.some hlt,hlt,zkZ hp hltp,hp.some hltp,hltp,hltpi,jW,jY,Int.toNat_zero,Nat.sub_zero,Nat.zero_mul,zx1,zx2,ite_self,hcapi,hcap,zx3 hpk,implies_true,true_and,and_true,and_self]
  refine U_t [18,19] rfl ?_
  simp only [go_sem,jq,jj,jy,jv,jk,jx,zkT ha hlt,ha.some hlt,hlt,zkZ hp hltp,hp.some hltp,hltp,hltpi,jW,jY,Int.toNat_zero,Nat.sub_zero,Nat.zero_mul,zx1,zx2,ite_self,hcapi,hcap,zx3 hpk,implies_true,true_and,and_true,and_self]
  refine U_d ?_
  have hat:ipAt (Con.con x) a.l (p.l.map Con.con) k=(zOX (Con.con x) (Con.con a.l[k]) (Con.con p.l[k]) && zJT (Con.con x) ((p.to k).l.map Con.con) (Con.con p.l[k])):=by
   rw [ipAt,hge,hgp,htk];rfl
  refine zc9 rfl (fun hq=>?_) (fun hq=>?_)
  ·refine Wk ?_
   have hf:ipAt (Con.con x) a.l (p.l.map Con.con) k=false:=by
    rw [hat]
    rcases (jQ _ _).mp hq with h1|h1
    ·rw [Bool.not_eq_true'] at h1;rw [h1];rfl
    ·rw [Bool.not_eq_true'] at h1;rw [h1,Bool.and_false]
   rw [decide_eq_false fun H=>by rw [H k hlt] at hf;cases hf]
  ·refine Wk ?_
   have hf:ipAt (Con.con x) a.l (p.l.map Con.con) k=true:=by
    rw [hat]
    obtain ⟨h1,h2⟩:=Bool.or_eq_false_iff.1 hq
    rw [Bool.not_eq_false'] at h1 h2
    rw [h1,h2];rfl
   refine ⟨k+1,[0],⟨hlt,fun i hi=>?_⟩,by omega,?_⟩
   ·rcases Nat.lt_succ_iff_lt_or_eq.1 hi with hi|rfl
    ·exact hip i hi
    ·exact hf
   refine Evs ?_
   exact Gi (zjA hlt (by omega))
 ·have hge:=zjI hd
  obtain rfl:k=a.l.length:=by omega
  refine Wk ?_
  rw [decide_eq_true hip]
end Go.Proofs.YtdejfjdbcggilaaGreat
