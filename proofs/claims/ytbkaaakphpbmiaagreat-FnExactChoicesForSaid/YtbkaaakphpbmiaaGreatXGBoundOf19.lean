/- What functions of the given program compute, each as a contract over what its arguments read as. No condition beside those that each theorem states. -/
import Derived.Test.YtbkaaakphpbmiaaGreatXGBoundOf18
set_option linter.unusedVariables false
set_option linter.unusedSimpArgs false
open Nat renaming reduceAdd → yqa, reduceMul → yqb, reduceBEq → yqc, reduceLeDiff → yqd, reduceLT → yqe, reduceEqDiff → yqf
open Bool renaming or_eq_false_iff → yqg, or_eq_true → yqh, and_eq_true → yqi
open Int renaming toNat_natCast → yqj, natCast_nonneg → yqk
namespace Go.Proofs.YtbkaaakphpbmiaaGreat
open Go Go.SL
set_option maxHeartbeats 1000000
def zGd (n:Nat) (m:List Int):Prop:=m.length=n∧(∀ i (hi:i < m.length),0≤m[i]∧m[i] < m.length)∧∀ i (hi:i < m.length),m.getD m[i].toNat 0=(i:Int)
noncomputable instance (n:Nat) (m:List Int):Decidable (zGd n m):=Classical.propDecidable _
noncomputable def zGe (a:List DCall) (m:List Int):Bool:=decide (zGd a.length m)
theorem zGf (a:Sl DCall) (b:Sl Int):zGe (Con.con a) (Con.con b)=decide (zGd a.l.length b.l):=by rw [zkx,zkw,zGe,List.length_map]
theorem zGg (a:Sl DCall) (b:Sl Int) (h:Hp) (ha:a.Ok h) (hb:b.Ok h):Ct Tryz.prog 107 [a.val,b.val] h fun v h'=>v=.bool (zGe (Con.con a) (Con.con b))∧h'=h:=by
 rw [zGf]
 have hl:=ha.max
 have hl2:=hb.max
 refine zdm (fun A W=>by simp) Tryz.func107 rfl rfl (by simp) fun W0=>?_
 refine Wk ?_
 refine zc9 rfl (fun hc=>?_) (fun hc=>?_)
 ·refine Wk ?_
  exact zjE fun e=>zjC hc (by rw [e.1])
 have hlen:b.l.length=a.l.length:=by have:=zjD hc;omega
 refine Wk ?_
 refine zdd (ι:=Nat) (fun k=>⟨[(1,true,.c (.v b.val)),(12,true,.c (.v b.val)),(13,true,.c (.v (.int .i64 b.l.length))),(14,true,.c (.v (.int .i64 k)))],[],h,0⟩) (fun k=>k≤b.l.length∧(∀ i (hi:i < b.l.length),i < k→0≤b.l[i]∧b.l[i] < b.l.length∧b.l.getD b.l[i].toNat 0=(i:Int))) (fun k=>b.l.length - k) 0 ⟨Nat.zero_le _,fun i _ h=>by omega⟩ ?_ ?_
 ·refine Evs ?_
  rfl
 intro k hk
 refine Wk ?_
 refine zc9 rfl (fun hd=>?_) (fun hd=>?_)
 ·have hlt:=zjG hd
  cases hg:(decide (0≤b.l[k]) && decide (b.l[k] < (b.l.length:Int)))
  ·repeat' first|refine zid rfl ?_|refine zc4 rfl ?_|refine zc7 ?_|refine zc8 ?_|refine zc5 ?_|refine zc6 ?_|refine zhE (fun _=>zyh _ _ _) ?_|(simp (maxSteps:=2000000) only [go_sem,yqa,yqb,yqc,yqd,yqe,yqf,zkO hb hlt,hb.some hlt,hlt,hg,Bool.not_false,Bool.not_true,Bool.true_or,Bool.false_or,Bool.false_eq_true,reduceCtorEq,false_implies];try rfl)|refine zc3 ?_|(refine And.intro ?_ ?_;focus (intros;simp_all only [yqg,yqh,yqi,and_self,true_and,and_true];done))
   refine zc9 rfl (fun hq=>?_) (fun hq=>?_)
   ·refine Wk ?_
    refine zjE fun e=>?_
    have h1:=e.2.1 k hlt
    rw [decide_eq_true h1.1,decide_eq_true h1.2] at hg
    cases hg
   ·cases hq
  ·have hg':=hg
   simp only [yqi,decide_eq_true_eq] at hg'
   have hi:b.l[k].toNat < b.l.length:=by omega
   repeat' first|refine zid rfl ?_|refine zc4 rfl ?_|refine zc7 ?_|refine zc8 ?_|refine zc5 ?_|refine zc6 ?_|refine zhE (fun _=>zyh _ _ _) ?_|(simp (maxSteps:=2000000) only [go_sem,yqa,yqb,yqc,yqd,yqe,yqf,zkO hb hlt,hb.some hlt,hlt,hg,hg'.1,hg'.2,zkO hb hi,Bool.not_false,Bool.not_true,Bool.true_or,Bool.false_or,Bool.false_eq_true];try rfl)|refine zc3 ?_|(refine And.intro ?_ ?_;focus (intros;simp_all only [yqg,yqh,yqi,and_self,true_and,and_true];done))
   refine zc9 rfl (fun hq=>?_) (fun hq=>?_)
   ·refine Wk ?_
    refine zjE fun e=>zjC hq ?_
    have:=e.2.2 k hlt
    rwa [List.getD_eq_getElem?_getD,List.getElem?_eq_getElem hi] at this
   ·refine Wk ?_
    refine ⟨k+1,⟨hlt,fun i hi' hik=>?_⟩,by omega,zjA (zjz hlt (by omega))⟩
    rcases Nat.lt_succ_iff_lt_or_eq.1 hik with h1|rfl
    ·exact hk.2 i hi' h1
    ·refine ⟨hg'.1,hg'.2,?_⟩
     rw [List.getD_eq_getElem?_getD,List.getElem?_eq_getElem hi]
     exact zjD hq
 ·have hge:=zjH hd
  refine Wk ?_
  exact zjF ⟨hlen,fun i hi=>⟨(hk.2 i hi (by omega)).1,(hk.2 i hi (by omega)).2.1⟩,fun i hi=>(hk.2 i hi (by omega)).2.2⟩
theorem zGh (a:Sl DCall) (b:Sl Int) (h:Hp) (ha:a.Ok h) (hb:b.Ok h):Ct Tryz.prog 104 [a.val,b.val] h fun v h'=>v=.bool (zGe (Con.con a) (Con.con b))∧h'=h:=by
 rw [zGf]
 have hl:=ha.max
 have hl2:=hb.max
 refine zdm (fun A W=>by simp) Tryz.func104 rfl rfl (by simp) fun W0=>?_
 refine Wk ?_
 refine zc9 rfl (fun hc=>?_) (fun hc=>?_)
 ·refine Wk ?_
  exact zjE fun e=>zjC hc (by rw [e.1])
 have hlen:b.l.length=a.l.length:=by have:=zjD hc;omega
 refine Wk ?_
 refine zdd (ι:=Nat) (fun k=>⟨[(1,true,.c (.v b.val)),(14,true,.c (.v b.val)),(15,true,.c (.v (.int .i64 b.l.length))),(16,true,.c (.v (.int .i64 k)))],[],h,0⟩) (fun k=>k≤b.l.length∧(∀ i (hi:i < b.l.length),i < k→0≤b.l[i]∧b.l[i] < b.l.length)) (fun k=>b.l.length - k) 0 ⟨Nat.zero_le _,fun i _ h=>by omega⟩ ?_ ?_
 ·refine Evs ?_
  rfl
 intro k hk
 refine Wk ?_
 refine zc9 rfl (fun hd=>?_) (fun hd=>?_)
 ·have hlt:=zjG hd
  have hw:IntKind.i64.wrap ((b.l.length:Int) - 1)=(b.l.length:Int) - 1:=zjy (by omega)
  repeat' first|refine zid rfl ?_|refine zc4 rfl ?_|refine zc7 ?_|refine zc8 ?_|refine zc5 ?_|refine zc6 ?_|refine zhE (fun _=>zye _ _ _ _) ?_|(simp (maxSteps:=2000000) only [go_sem,yqa,yqb,yqc,yqd,yqe,yqf,zkO hb hlt,hb.some hlt,hlt,hw];try rfl)|refine zc3 ?_|(refine And.intro ?_ ?_;focus (intros;simp_all only [yqg,yqh,yqi,and_self,true_and,and_true];done))
  refine zc9 rfl (fun hq=>?_) (fun hq=>?_)
  ·refine Wk ?_
   refine zjE fun e=>?_
   have h1:=e.2.1 k hlt
   rw [decide_eq_true h1.1,decide_eq_true (show b.l[k]≤(b.l.length:Int) - 1 by omega)] at hq
   cases hq
  ·refine Wk ?_
   refine ⟨k+1,⟨hlt,fun i hi' hik=>?_⟩,by omega,zjA (zjz hlt (by omega))⟩
   rcases Nat.lt_succ_iff_lt_or_eq.1 hik with h1|rfl
   ·exact hk.2 i hi' h1
   ·simp only [Bool.not_eq_false',yqi,decide_eq_true_eq] at hq
    exact ⟨hq.1,by omega⟩
 have hge:=zjH hd
 have hall:∀ i (hi:i < b.l.length),0≤b.l[i]∧b.l[i] < b.l.length:=fun i hi=>hk.2 i hi (by omega)
 refine Wk ?_
 refine zdd (ι:=Nat) (fun k=>⟨[(1,true,.c (.v b.val)),(27,true,.c (.v b.val)),(28,true,.c (.v (.int .i64 b.l.length))),(29,true,.c (.v (.int .i64 k)))],[],h,0⟩) (fun k=>k≤b.l.length∧(∀ i (hi:i < b.l.length),i < k→b.l.getD b.l[i].toNat 0=(i:Int))) (fun k=>b.l.length - k) 0 ⟨Nat.zero_le _,fun i _ h=>by omega⟩ ?_ ?_
 ·refine Evs ?_
  rfl
 intro k hk
 refine Wk ?_
 refine zc9 rfl (fun hd=>?_) (fun hd=>?_)
 ·have hlt:=zjG hd
  have hg':=hall k hlt
  have hi:b.l[k].toNat < b.l.length:=by omega
  repeat' first|refine zid rfl ?_|refine zc4 rfl ?_|refine zc7 ?_|refine zc8 ?_|refine zc5 ?_|refine zc6 ?_|(simp (maxSteps:=2000000) only [go_sem,yqa,yqb,yqc,yqd,yqe,yqf,zkO hb hlt,hb.some hlt,hlt,hg'.1,hg'.2,zkO hb hi];try rfl)|refine zc3 ?_|(refine And.intro ?_ ?_;focus (intros;simp_all only [yqg,yqh,yqi,and_self,true_and,and_true];done))
  refine zc9 rfl (fun hq=>?_) (fun hq=>?_)
  ·refine Wk ?_
   refine zjE fun e=>zjC hq ?_
   have:=e.2.2 k hlt
   rwa [List.getD_eq_getElem?_getD,List.getElem?_eq_getElem hi] at this
  ·refine Wk ?_
   refine ⟨k+1,⟨hlt,fun i hi' hik=>?_⟩,by omega,zjA (zjz hlt (by omega))⟩
   rcases Nat.lt_succ_iff_lt_or_eq.1 hik with h1|rfl
   ·exact hk.2 i hi' h1
   ·rw [List.getD_eq_getElem?_getD,List.getElem?_eq_getElem hi]
    exact zjD hq
 ·have hge:=zjH hd
  refine Wk ?_
  exact zjF ⟨hlen,hall,fun i hi=>hk.2 i hi (by omega)⟩
end Go.Proofs.YtbkaaakphpbmiaaGreat
namespace Go.Proofs.YtbkaaakphpbmiaaGreat
open Go Go.SL
set_option maxHeartbeats 1000000
def flr (l:List POption):Int:=if zyk l < 0 then -1 else (l.getD (zyk l).toNat zEN).cost
def zGi (c:PChart) (r:DRegime) (L:List (List POption)) (i:Nat) (n:Int):Int:=if n=i then flr (L.getD i []) else if (i:Int) < n then zFs c r (L.getD i []) (L.getD n.toNat []) else 0
def zGj (c:PChart) (r:DRegime) (L:List (List POption)) (m:List Int) (k:Nat) (s:Int):Option Int:=if zGi c r L k (m.getD k 0) < 0 then none else some (IntKind.i64.wrap (s+zGi c r L k (m.getD k 0)))
def zGk (c:PChart) (r:DRegime) (L:List (List POption)) (m:List Int):Nat→Option Int
 | 0=>some 0
 | k+1=>(zGk c r L m k).bind (zGj c r L m k)
def oIB (o:Option Int):Int × Bool:=match o with|none=>(0,false)|some s=>(s,true)
def zGl (x:PHarbour) (calls:List DCall):List (List POption):=calls.map (zE3 x)
noncomputable def zGm (x:PHarbour) (calls:List DCall) (m:List Int):Int × Bool:=if (zzI x calls && zGe calls m)=true then oIB (zGk x.chart x.regime (zGl x calls) m m.length) else (0,false)
theorem zGn {c:PChart} {r:DRegime} {L:List (List POption)} {m:List Int} {k:Nat} (h:zGk c r L m k=none):∀ {n:Nat},k≤n→zGk c r L m n=none
 | 0,hn=>by rw [← Nat.le_zero.1 hn,h]
 | n+1,hn=>by
  rcases Nat.lt_or_ge n k with hk|hk
  ·rw [show n+1=k by omega,h]
  ·rw [zGk,zGn h hk];rfl
theorem zGo {c:PChart} {r:DRegime} {L:List (List POption)} {m:List Int} {k n:Nat} {s:Int} (h:zGk c r L m k=some s) (hb:zGi c r L k (m.getD k 0) < 0) (hk:k < n):zGk c r L m n=none:=by
 refine zGn (k:=k+1) ?_ hk
 rw [zGk,h,Option.bind_some,zGj,if_pos hb]
theorem zGp {c:PChart} {r:DRegime} {L:List (List POption)} {m:List Int} {k:Nat} {s:Int} (h:zGk c r L m k=some s) (hb:¬ zGi c r L k (m.getD k 0) < 0):zGk c r L m (k+1)=some (IntKind.i64.wrap (s+zGi c r L k (m.getD k 0))):=by
 rw [zGk,h,Option.bind_some,zGj,if_neg hb]
theorem zGq {L:Sl (Sl DOption)} {i:Nat} (hi:i < L.l.length):(L.l.map fun s=>s.l.map (Con.con (α:=DOption))).getD i []=L.l[i].l.map Con.con:=by
 simp [List.getD_eq_getElem?_getD,hi]
set_option maxRecDepth 30000 in
theorem zGr (x:DHarbour) (L:Sl (Sl DOption)) (m:Sl Int) (h:Hp) (hx:Enc.ok h x) (hL:L.Ok h) (hm:m.Ok h) (hlen:m.l.length≤L.l.length) (hin:∀ i (hi:i < m.l.length),m.l[i] < L.l.length) (hok:∀ l ∈ L.l,l.l ≠ []→zy2 (Con.con x.chart)=true∧zzf x.regime=true) (hco:∀ l ∈ L.l,∀ y ∈ l.l,0≤y.cost):Ct Tryz.prog 105 [x.v,L.val,m.val] h fun v h'=>v=.tuple #[.int .i64 (oIB (zGk (Con.con x.chart) x.regime (L.l.map fun s=>s.l.map (Con.con (α:=DOption))) m.l m.l.length)).1,.bool (oIB (zGk (Con.con x.chart) x.regime (L.l.map fun s=>s.l.map (Con.con (α:=DOption))) m.l m.l.length)).2]∧h'=h:=by
 have hlm:=hm.max
 have hlL:=hL.max
 refine zdm (fun A W=>by simp) Tryz.func105 rfl rfl (by simp) fun W0=>?_
 refine Wk ?_
 refine zdd (ι:=Nat × Int) (fun i=>⟨[(1,true,.c (.v L.val)),(3,true,.c (.p 0 0)),(6,true,.c (.v (.int .i64 0))),(7,true,.c (.v (.bool false))),(8,true,.c (.v (.int .i64 i.2))),(13,true,.c (.v m.val)),(14,true,.c (.v (.int .i64 m.l.length))),(15,true,.c (.v (.int .i64 i.1)))],[(0,.box 62 [.v (.int .i64 x.forecast.tide.mean),.v x.forecast.tide.parts.val,.v x.forecast.surges.val,.v x.chart.points.val,.v x.chart.segments.val,.v x.fleet.val,.v (.int .i64 x.regime.gap),.v (.bool x.regime.noMeet),.v (.int .i64 x.crew.tugs),.v (.int .i64 x.crew.pilots),.v (.int .i64 x.crew.rest),.v x.crew.moves.val])],h,1⟩) (fun i=>i.1≤m.l.length∧zGk (Con.con x.chart) x.regime (L.l.map fun s=>s.l.map (Con.con (α:=DOption))) m.l i.1=some i.2) (fun i=>m.l.length - i.1) (0,0) ⟨Nat.zero_le _,rfl⟩ ?_ ?_
 ·refine Evs ?_
  first|exact rfl|exact ⟨rfl,rfl⟩|exact ⟨rfl,rfl,rfl⟩|exact ⟨rfl,rfl,rfl,rfl⟩|exact ⟨rfl,rfl,rfl,rfl,rfl⟩
 rintro ⟨k,z⟩ ⟨hk,hgo⟩
 simp only at hk hgo
 refine Wk ?_
 refine zc9 rfl (fun hd=>?_) (fun hd=>?_)
 ·have hlt:=zjG hd
  have hmk:m.l.getD k 0=m.l[k]:=iget hlt
  have hkL:k < L.l.length:=by omega
  have hkL2:(k:Int) < L.l.length:=by omega
  have hlk:=(hL.el hkL).max
  repeat' first|refine zid rfl ?_|refine zc4 rfl ?_|refine zc7 ?_|refine zc8 ?_|refine zc5 ?_|refine zc6 ?_|(simp (maxSteps:=2000000) only [go_sem,yqa,yqb,yqc,yqd,yqe,yqf,atI hm hlt,hm.some hlt,hlt,yqj];try rfl)|refine zc3 ?_|(refine And.intro ?_ ?_;focus (intros;simp_all only [yqg,yqh,yqi,and_self,true_and,and_true];done))
  refine zc9 rfl (fun hq=>?_) (fun hq=>?_)
  ·have hq:=eq_of_beq hq
   have hA:zGi (Con.con x.chart) x.regime (L.l.map fun s=>s.l.map (Con.con (α:=DOption))) k (m.l.getD k 0)=flr (L.l[k].l.map Con.con):=by rw [zGi,hmk,if_pos hq,zGq hkL]
   repeat' first|refine zid rfl ?_|refine zc4 rfl ?_|refine zc7 ?_|refine zc8 ?_|refine zc5 ?_|refine zc6 ?_|refine zhE (fun _=>zyn L.l[k] _ (hL.el hkL)) ?_|(simp (maxSteps:=2000000) only [go_sem,yqa,yqb,yqc,yqd,yqe,yqf,zkN hL hkL,hL.some hkL,hkL,hkL2,yqj];try rfl)|refine zc3 ?_|(refine And.intro ?_ ?_;focus (intros;simp_all only [yqg,yqh,yqi,and_self,true_and,and_true];done))
   have okk:=hL.el hkL
   have hdef:Con.con L.l[k]=L.l[k].l.map (Con.con (α:=DOption)):=rfl
   rw [hdef]
   rcases zFd (L.l[k].l.map (Con.con (α:=DOption))) with ⟨_,e⟩|⟨e1,e2⟩
   ·rw [e]
    refine zc9 rfl (fun hq=>?_) (fun hq=>?_)
    case refine_2=>cases hq
    refine Wk ?_
    rw [zGo hgo (by rw [hA,flr,e,if_pos (by decide)];decide) hlt]
    rfl
   ·obtain ⟨c,hc⟩:∃ c,zyk (L.l[k].l.map (Con.con (α:=DOption)))=c:=⟨_,rfl⟩
    rw [hc] at e1 e2 ⊢
    rw [zFw] at e2
    have hci:c.toNat < L.l[k].l.length:=by omega
    have hc2:c < (L.l[k].l.length:Int):=by omega
    have hfl:flr (L.l[k].l.map Con.con)=L.l[k].l[c.toNat].cost:=by rw [flr,hc,if_neg (by omega),zFe rfl hci]
    have hge0:=hco _ (List.getElem_mem hkL) _ (List.getElem_mem hci)
    have hgo2:=zGp hgo (by rw [hA,hfl];omega)
    rw [hA,hfl] at hgo2
    refine zc9 rfl (fun hq=>?_) (fun hq=>?_)
    ·exact absurd (of_decide_eq_true hq) (by omega)
    repeat' first|refine zid rfl ?_|refine zc4 rfl ?_|refine zc7 ?_|refine zc8 ?_|refine zc5 ?_|refine zc6 ?_|(simp (maxSteps:=2000000) only [go_sem,yqa,yqb,yqc,yqd,yqe,yqf,zkN hL hkL,hL.some hkL,hkL,hkL2,zmV okk hci,okk.some hci,hci,e1,hc2,yqj,implies_true,true_and,and_true,and_self];try rfl)|refine zc3 ?_|(refine And.intro ?_ ?_;focus (intros;simp_all only [yqg,yqh,yqi,and_self,true_and,and_true];done))
    refine ⟨(k+1,IntKind.i64.wrap (z+L.l[k].l[c.toNat].cost)),⟨hlt,hgo2⟩,by simp only;omega,?_⟩
    refine Evs ?_
    exact zjA (zjz hlt (by omega))
  ·have hq:=ne_of_beq_false hq
   refine Wk ?_
   refine zc9 rfl (fun hq2=>?_) (fun hq2=>?_)
   ·have hq2:=of_decide_eq_true hq2
    have hn1:=hin k hlt
    have hn0:(0:Int)≤m.l[k]:=by omega
    have hnL:m.l[k].toNat < L.l.length:=by omega
    have hA:zGi (Con.con x.chart) x.regime (L.l.map fun s=>s.l.map (Con.con (α:=DOption))) k (m.l.getD k 0)=zFs (Con.con x.chart) x.regime (L.l[k].l.map Con.con) (L.l[m.l[k].toNat].l.map Con.con):=by rw [zGi,hmk,if_neg hq,if_pos hq2,zGq hkL,zGq hnL]
    refine Wk ?_
    refine zAZ rfl ?_
    refine zAS [0,1,2,5,6,3,7,4,8] rfl (by kernel_rfl) ?_
    simp (maxSteps:=2000000) only [go_sem,yqa,yqb,yqc,yqd,yqe,yqf,zkN hL hkL,hL.some hkL,hkL,zkN hL hnL,hL.some hnL,hnL,hn0,hn1,yqj,implies_true,true_and,and_true,and_self]
    refine zAX 9 0 [] rfl (by kernel_rfl) (by kernel_rfl) (by kernel_rfl) rfl ?_
    simp (maxSteps:=2000000) only [go_sem,yqa,yqb,yqc,yqd,yqe,yqf,zkN hL hkL,hL.some hkL,hkL,zkN hL hnL,hL.some hnL,hnL,hn0,hn1,yqj,implies_true,true_and,and_true,and_self]
    refine zhE (fun _=>zFz x L.l[k] L.l[m.l[k].toNat] _ hx (hL.el hkL) (hL.el hnL) (fun hne=>hok _ (List.getElem_mem hkL) hne)) ?_
    simp (maxSteps:=2000000) only [go_sem,yqa,yqb,yqc,yqd,yqe,yqf,zkN hL hkL,hL.some hkL,hkL,zkN hL hnL,hL.some hnL,hnL,hn0,hn1,yqj,implies_true,true_and,and_true,and_self]
    refine zAS [10] rfl (by kernel_rfl) ?_
    simp (maxSteps:=2000000) only [go_sem,yqa,yqb,yqc,yqd,yqe,yqf,zkN hL hkL,hL.some hkL,hkL,zkN hL hnL,hL.some hnL,hnL,hn0,hn1,yqj,implies_true,true_and,and_true,and_self]
    refine zAY (by kernel_rfl) ?_
    refine Wk ?_
    refine zc9 rfl (fun hq3=>?_) (fun hq3=>?_)
    ·refine Wk ?_
     rw [zGo hgo (by rw [hA];exact of_decide_eq_true hq3) hlt]
     rfl
    ·have hgo2:=zGp hgo (by rw [hA];exact of_decide_eq_false hq3)
     rw [hA] at hgo2
     refine Wk ?_
     refine ⟨(k+1,IntKind.i64.wrap (z+zFs (Con.con x.chart) x.regime (L.l[k].l.map Con.con) (L.l[m.l[k].toNat].l.map Con.con))),⟨hlt,hgo2⟩,by simp only;omega,?_⟩
     refine Evs ?_
     exact zjA (zjz hlt (by omega))
   ·have hq2:=of_decide_eq_false hq2
    have hA:zGi (Con.con x.chart) x.regime (L.l.map fun s=>s.l.map (Con.con (α:=DOption))) k (m.l.getD k 0)=0:=by rw [zGi,hmk,if_neg hq,if_neg hq2]
    have hgo2:=zGp hgo (by rw [hA];decide)
    rw [hA] at hgo2
    refine Wk ?_
    refine ⟨(k+1,IntKind.i64.wrap (z+0)),⟨hlt,hgo2⟩,by simp only;omega,?_⟩
    refine Evs ?_
    exact zjA (zjz hlt (by omega))
 ·have hge:=zjH hd
  obtain rfl:k=m.l.length:=by omega
  refine Wk ?_
  rw [hgo]
  rfl
theorem zGs (x:DHarbour) (a:Sl DCall) (h:Hp) (hx:Enc.ok h x) (ha:a.Ok h) (hz:a.l.length≤1048576):Ct Tryz.prog 106 [x.v,a.val] h fun v h'=>∃ s:Sl (Sl DOption),v=s.val∧s.l.map (fun l=>l.l.map (Con.con (α:=DOption)))=zGl (Con.con x) a.l∧s.Ok h'∧Mine h h' s:=by
 have hl:=ha.max
 refine zdm (fun A W=>by simp) Tryz.func106 rfl rfl (by simp) fun W0=>?_
 refine Wk ?_
 refine zm6 (ι:=Nat × List (Sl DOption) × Hp) (fun i=>⟨[(2,true,.c (.p 0 0)),(4,true,.c (.v (.slice none 0 0))),(5,true,.c (.s 1)),(9,true,.c (.v a.val)),(10,true,.c (.v (.int .i64 a.l.length))),(11,true,.c (.v (.int .i64 i.1)))],[(0,.box 62 [.v (.int .i64 x.forecast.tide.mean),.v x.forecast.tide.parts.val,.v x.forecast.surges.val,.v x.chart.points.val,.v x.chart.segments.val,.v x.fleet.val,.v (.int .i64 x.regime.gap),.v (.bool x.regime.noMeet),.v (.int .i64 x.crew.tugs),.v (.int .i64 x.crew.pilots),.v (.int .i64 x.crew.rest),.v x.crew.moves.val]),(1,.row 93 1 i.2.1.length (i.2.1.flatMap Enc.enc))],i.2.2,2⟩) (fun i=>i.1≤a.l.length∧i.2.1.length=i.1∧i.2.1.map (fun l=>l.l.map (Con.con (α:=DOption)))=(a.l.take i.1).map (zE3 (Con.con x))∧(∀ y ∈ i.2.1,Enc.ok i.2.2 y)∧Mines h i.2.2 i.2.1∧h.le i.2.2) (fun i=>a.l.length - i.1) (0,[],h) ⟨Nat.zero_le _,rfl,rfl,fun y hy=>(by cases hy),Mines.nil,Hp.le_refl _⟩ [0,1] ?_ ?_
 ·refine Evs ?_
  repeat' first|exact rfl|exact trivial|assumption|decide|refine And.intro ?_ ?_
 rintro ⟨k,acc,hk⟩ ⟨hkl,hal,hac,hacok,hacm,hle⟩
 simp only at hkl hal hac hacok hacm hle
 have hak:=ha.mono hle
 have hxk:Enc.ok hk x:=Enc.mono hle hx
 refine Wk ?_
 refine zc9 rfl (fun hd=>?_) (fun hd=>?_)
 ·have hlt:=zjG hd
  repeat' first|refine zid rfl ?_|refine zc4 rfl ?_|refine zc7 ?_|refine zc8 ?_|refine zc5 ?_|refine zc6 ?_|(simp (maxSteps:=2000000) only [go_sem,yqa,yqb,yqc,yqd,yqe,yqf,zkQ hak hlt,hak.some hlt,hlt,yqj];try rfl)|refine zc3 ?_|(refine And.intro ?_ ?_;focus (intros;simp_all only [yqg,yqh,yqi,and_self,true_and,and_true];done))
  refine zko (zFg x a.l[k] _ hxk (hak.el hlt)) rfl ?_
  rintro v h2 le2 ⟨s,rfl,es,oks,ms⟩
  refine Wk ?_
  refine ⟨by simp only [maxLen];omega,by omega,?_⟩
  refine Wk ?_
  have hle2:=Hp.le_trans hle le2
  have hw:IntKind.i64.wrap ((k:Int)+1)=((k+1:Nat):Int):=zjz hlt (by omega)
  refine ⟨(k+1,acc ++ [s],h2),[0,4],⟨hlt,?_,?_,fun y hy=>?_,Mines.snoc hacm hacok le2 hle ms,hle2⟩,by simp only;omega,?_⟩
  ·show (acc ++ [s]).length=k+1
   rw [List.length_append,hal];rfl
  ·show (acc ++ [s]).map _=(a.l.take (k+1)).map _
   rw [List.map_append,hac,List.take_succ_eq_append_getElem hlt,List.map_append]
   congr 1
   exact congrArg (fun z=>[z]) es
  ·rcases List.mem_append.1 hy with hy|hy
   ·exact Enc.mono le2 (hacok y hy)
   ·rw [List.mem_singleton.1 hy];exact oks
  refine Evs ?_
  rw [hw]
  simp only [List.flatMap_append,List.length_append]
  repeat' first|exact rfl|exact trivial|assumption|decide|refine And.intro ?_ ?_
 ·have hge:=zjH hd
  refine zc6 ?_
  refine Evs ?_
  refine zl1 1 acc rfl rfl rfl rfl (by decide) hacok h hle hacm fun q h' e2 e3 e4 e5=>?_
  refine Wk ?_
  refine ⟨q,rfl,?_,e3,e5⟩
  rw [e2,hac,List.take_of_length_le hge];rfl
end Go.Proofs.YtbkaaakphpbmiaaGreat
namespace Go.Proofs.YtbkaaakphpbmiaaGreat
open Go Go.SL
set_option maxHeartbeats 1000000
theorem zGt {x:PHarbour} {l:List DCall} {i:Nat} (hi:i < l.length):(zGl x l).getD i []=zE3 x l[i]:=by
 rw [zGl,List.getD_eq_getElem?_getD,List.getElem?_map,List.getElem?_eq_getElem hi];rfl
theorem zGu {x:PHarbour} {l:List DCall}:(zGl x l).length=l.length:=List.length_map ..
theorem zGv {x:DHarbour} {a:List DCall} {L:List (Sl DOption)} (h:L.map (fun l=>l.l.map (Con.con (α:=DOption)))=zGl (Con.con x) a):(∀ l ∈ L,l.l ≠ []→zy2 (Con.con x.chart)=true∧zzf x.regime=true)∧(∀ l ∈ L,∀ y ∈ l.l,0≤y.cost∧y.cost≤2880):=by
 have key:∀ l ∈ L,∃ c ∈ a,l.l.map (Con.con (α:=DOption))=zE3 (Con.con x) c:=fun l hl=>by
  have:l.l.map (Con.con (α:=DOption)) ∈ zGl (Con.con x) a:=by rw [← h];exact List.mem_map.2 ⟨l,hl,rfl⟩
  obtain ⟨c,hc,e⟩:=List.mem_map.1 this
  exact ⟨c,hc,e.symm⟩
 refine ⟨fun l hl hne=>?_,fun l hl y hy=>?_⟩
 ·obtain ⟨c,_,e⟩:=key l hl
  exact zFA (zFB e hne)
 ·obtain ⟨c,_,e⟩:=key l hl
  have:Con.con y ∈ zE3 (Con.con x) c:=by rw [← e];exact List.mem_map.2 ⟨y,hy,rfl⟩
  exact zGc _ this
theorem zGw {n:Nat} {m:List Int} (h:zGd n m):m.length=n∧∀ i (hi:i < m.length),0≤m[i]∧m[i] < m.length:=⟨h.1,h.2.1⟩
theorem zGx {x:PHarbour} {l:List DCall} (h:zzI x l=true):l.length≤6:=by
 simp only [zzI,yqi,decide_eq_true_eq] at h
 exact h.1.2
set_option maxRecDepth 30000 in
theorem zGy (x:DHarbour) (a:Sl DCall) (m:Sl Int) (h:Hp) (hx:Enc.ok h x) (ha:a.Ok h) (hm:m.Ok h):Ct Tryz.prog 37 [x.v,a.val,m.val] h fun v h'=>v=.tuple #[.int .i64 (zGm (Con.con x) (Con.con a) (Con.con m)).1,.bool (zGm (Con.con x) (Con.con a) (Con.con m)).2]∧h'=h:=by
 have hla:=ha.max
 have hlm:=hm.max
 refine Ct.forget ?_
 refine zdm (fun A W=>by simp) Tryz.func37 rfl rfl (by simp) fun W0=>?_
 repeat' first|refine zid rfl ?_|refine zc4 rfl ?_|refine zc7 ?_|refine zc8 ?_|refine zc5 ?_|refine zc6 ?_|refine zhE (fun _=>zzK x a _ hx ha) ?_|refine zhE (fun _=>zGh a m _ ha hm) ?_|(simp (maxSteps:=2000000) only [go_sem,yqa,yqb,yqc,yqd,yqe,yqf];try rfl)|refine zc3 ?_|(refine And.intro ?_ ?_;focus (intros;simp_all only [yqg,yqh,yqi,and_self,true_and,and_true];done))
 refine zc9 rfl (fun hc=>?_) (fun hc=>?_)
 ·have hF:zGm (Con.con x) (Con.con a) (Con.con m)=(0,false):=by
   rw [zGm,if_neg]
   intro H
   rw [yqi] at H
   rw [H.1,H.2] at hc
   cases hc
  rw [hF]
  exact Wk0
 obtain ⟨hc1,hc2⟩:=Bool.or_eq_false_iff.1 hc
 rw [Bool.not_eq_false'] at hc1 hc2
 have hF:zGm (Con.con x) (Con.con a) (Con.con m)=oIB (zGk (Con.con x.chart) x.regime (zGl (Con.con x) a.l) m.l m.l.length):=by
  rw [zGm,hc1,hc2,zzJ,zkx];rfl
 rw [zzJ] at hc1
 have h6:=zGx hc1
 have hz:a.l.length≤1048576:=by omega
 rw [zGf] at hc2
 obtain ⟨hml,hmi⟩:=zGw (of_decide_eq_true hc2)
 rw [hF]
 refine Wk ?_
 refine zAZ rfl ?_
 refine zAS [0,1,2,4] rfl (by kernel_rfl) ?_
 refine Evs ?_
 refine zAX 3 0 [0] rfl (by kernel_rfl) (by kernel_rfl) (by kernel_rfl) rfl ?_
 refine Evs ?_
 refine zko (zGs x a _ hx ha hz) rfl ?_
 rintro v h1 le1 ⟨L,rfl,eL,okL,mL⟩
 have hlen:L.l.length=a.l.length:=by have:=congrArg List.length eL;rwa [List.length_map,zGu] at this
 refine Evs ?_
 refine zAX 5 0 [] rfl (by kernel_rfl) (by kernel_rfl) (by kernel_rfl) rfl ?_
 refine Evs ?_
 refine zhE (fun _=>zGr x L m _ (Enc.mono le1 hx) okL (hm.mono le1) (by omega) (fun i hi=>by have:=hmi i hi;omega) (zGv eL).1 (fun l hl y hy=>((zGv eL).2 l hl y hy).1)) ?_
 rw [eL]
 refine Evs ?_
 refine zAS [6,7,8,9] rfl (by kernel_rfl) ?_
 refine Evs ?_
 refine zAY (by kernel_rfl) ?_
 exact Wk0
set_option maxRecDepth 30000 in
theorem zGz (x:DHarbour) (a:Sl DCall) (m:Sl Int) (h:Hp) (hx:Enc.ok h x) (ha:a.Ok h) (hm:m.Ok h):Ct Tryz.prog 38 [x.v,a.val,m.val] h fun v h'=>v=.tuple #[.int .i64 (zGm (Con.con x) (Con.con a) (Con.con m)).1,.bool (zGm (Con.con x) (Con.con a) (Con.con m)).2]∧h'=h:=by
 have hla:=ha.max
 have hlm:=hm.max
 refine Ct.forget ?_
 refine zdm (fun A W=>by simp) Tryz.func38 rfl rfl (by simp) fun W0=>?_
 repeat' first|refine zid rfl ?_|refine zc4 rfl ?_|refine zc7 ?_|refine zc8 ?_|refine zc5 ?_|refine zc6 ?_|refine zhE (fun _=>zzL x a _ hx ha) ?_|refine zhE (fun _=>zGg a m _ ha hm) ?_|(simp (maxSteps:=2000000) only [go_sem,yqa,yqb,yqc,yqd,yqe,yqf];try rfl)|refine zc3 ?_|(refine And.intro ?_ ?_;focus (intros;simp_all only [yqg,yqh,yqi,and_self,true_and,and_true];done))
 refine zc9 rfl (fun hc=>?_) (fun hc=>?_)
 ·have hF:zGm (Con.con x) (Con.con a) (Con.con m)=(0,false):=by
   rw [zGm,if_neg]
   intro H
   rw [yqi] at H
   rw [H.1,H.2] at hc
   cases hc
  rw [hF]
  exact Wk0
 obtain ⟨hc1,hc2⟩:=Bool.or_eq_false_iff.1 hc
 rw [Bool.not_eq_false'] at hc1 hc2
 have hF:zGm (Con.con x) (Con.con a) (Con.con m)=oIB (zGk (Con.con x.chart) x.regime (zGl (Con.con x) a.l) m.l m.l.length):=by
  rw [zGm,hc1,hc2,zzJ,zkx];rfl
 rw [zzJ] at hc1
 have h6:=zGx hc1
 have hz:a.l.length≤1048576:=by omega
 rw [zGf] at hc2
 obtain ⟨hml,hmi⟩:=zGw (of_decide_eq_true hc2)
 rw [hF]
 refine Wk ?_
 refine zdd (ι:=Nat × Int) (fun i=>⟨[(1,true,.c (.v a.val)),(3,true,.c (.p 0 0)),(6,true,.c (.v (.int .i64 0))),(7,true,.c (.v (.bool false))),(8,true,.c (.v (.int .i64 i.2))),(22,true,.c (.v m.val)),(23,true,.c (.v (.int .i64 m.l.length))),(24,true,.c (.v (.int .i64 i.1)))],[(0,.box 62 [.v (.int .i64 x.forecast.tide.mean),.v x.forecast.tide.parts.val,.v x.forecast.surges.val,.v x.chart.points.val,.v x.chart.segments.val,.v x.fleet.val,.v (.int .i64 x.regime.gap),.v (.bool x.regime.noMeet),.v (.int .i64 x.crew.tugs),.v (.int .i64 x.crew.pilots),.v (.int .i64 x.crew.rest),.v x.crew.moves.val])],h,1⟩) (fun i=>i.1≤m.l.length∧zGk (Con.con x.chart) x.regime (zGl (Con.con x) a.l) m.l i.1=some i.2) (fun i=>m.l.length - i.1) (0,0) ⟨Nat.zero_le _,rfl⟩ ?_ ?_
 ·refine Evs ?_
  first|exact rfl|exact ⟨rfl,rfl⟩|exact ⟨rfl,rfl,rfl⟩|exact ⟨rfl,rfl,rfl,rfl⟩|exact ⟨rfl,rfl,rfl,rfl,rfl⟩
 rintro ⟨k,z⟩ ⟨hk,hgo⟩
 simp only at hk hgo
 refine Wk ?_
 refine zc9 rfl (fun hd=>?_) (fun hd=>?_)
 ·have hlt:=zjG hd
  have hmk:m.l.getD k 0=m.l[k]:=iget hlt
  have hkL:k < a.l.length:=by omega
  have hkL2:(k:Int) < a.l.length:=by omega
  repeat' first|refine zid rfl ?_|refine zc4 rfl ?_|refine zc7 ?_|refine zc8 ?_|refine zc5 ?_|refine zc6 ?_|(simp (maxSteps:=2000000) only [go_sem,yqa,yqb,yqc,yqd,yqe,yqf,atI hm hlt,hm.some hlt,hlt,yqj];try rfl)|refine zc3 ?_|(refine And.intro ?_ ?_;focus (intros;simp_all only [yqg,yqh,yqi,and_self,true_and,and_true];done))
  refine zc9 rfl (fun hq=>?_) (fun hq=>?_)
  ·have hq:=eq_of_beq hq
   have hA:zGi (Con.con x.chart) x.regime (zGl (Con.con x) a.l) k (m.l.getD k 0)=zFc (Con.con x) (Con.con a.l[k]):=by rw [zGi,hmk,if_pos hq,zGt hkL];rfl
   refine Wk ?_
   refine zAZ rfl ?_
   refine zAS [0,1,2,3,4] rfl (by kernel_rfl) ?_
   simp (maxSteps:=2000000) only [go_sem,yqa,yqb,yqc,yqd,yqe,yqf,zkQ ha hkL,ha.some hkL,hkL,hkL2,yqj,yqk,implies_true,true_and,and_true,and_self]
   refine zAX 5 0 [] rfl (by kernel_rfl) (by kernel_rfl) (by kernel_rfl) rfl ?_
   simp (maxSteps:=2000000) only [go_sem,yqa,yqb,yqc,yqd,yqe,yqf,zkQ ha hkL,ha.some hkL,hkL,hkL2,yqj,yqk,implies_true,true_and,and_true,and_self]
   refine zhE (fun _=>zFh x a.l[k] _ hx (ha.el hkL)) ?_
   simp (maxSteps:=2000000) only [go_sem,yqa,yqb,yqc,yqd,yqe,yqf,zkQ ha hkL,ha.some hkL,hkL,hkL2,yqj,yqk,implies_true,true_and,and_true,and_self]
   refine zAS [6] rfl (by kernel_rfl) ?_
   simp (maxSteps:=2000000) only [go_sem,yqa,yqb,yqc,yqd,yqe,yqf,zkQ ha hkL,ha.some hkL,hkL,hkL2,yqj,yqk,implies_true,true_and,and_true,and_self]
   refine zAY (by kernel_rfl) ?_
   refine Wk ?_
   refine zc9 rfl (fun hq3=>?_) (fun hq3=>?_)
   ·refine Wk ?_
    rw [zGo hgo (by rw [hA];exact of_decide_eq_true hq3) hlt]
    rfl
   ·have hgo2:=zGp hgo (by rw [hA];exact of_decide_eq_false hq3)
    rw [hA] at hgo2
    refine Wk ?_
    refine ⟨(k+1,IntKind.i64.wrap (z+zFc (Con.con x) (Con.con a.l[k]))),⟨hlt,hgo2⟩,by simp only;omega,?_⟩
    refine Evs ?_
    exact zjA (zjz hlt (by omega))
  have hq:=ne_of_beq_false hq
  refine Wk ?_
  refine zc9 rfl (fun hq2=>?_) (fun hq2=>?_)
  ·have hq2:=of_decide_eq_true hq2
   obtain ⟨_,hn1⟩:=hmi k hlt
   have hn1:m.l[k] < (a.l.length:Int):=by omega
   have hn0:(0:Int)≤m.l[k]:=by omega
   have hnL:m.l[k].toNat < a.l.length:=by omega
   have hA:zGi (Con.con x.chart) x.regime (zGl (Con.con x) a.l) k (m.l.getD k 0)=zFt (Con.con x) (Con.con a.l[k]) (Con.con a.l[m.l[k].toNat]):=by rw [zGi,hmk,if_neg hq,if_pos hq2,zGt hkL,zGt hnL];rfl
   refine Wk ?_
   refine zAZ rfl ?_
   refine zAS [0,1,2,5,6,3,7,4,8] rfl (by kernel_rfl) ?_
   simp (maxSteps:=2000000) only [go_sem,yqa,yqb,yqc,yqd,yqe,yqf,zkQ ha hkL,ha.some hkL,hkL,hkL2,zkQ ha hnL,ha.some hnL,hnL,hn0,hn1,yqj,yqk,implies_true,true_and,and_true,and_self]
   refine zAX 9 0 [] rfl (by kernel_rfl) (by kernel_rfl) (by kernel_rfl) rfl ?_
   simp (maxSteps:=2000000) only [go_sem,yqa,yqb,yqc,yqd,yqe,yqf,zkQ ha hkL,ha.some hkL,hkL,hkL2,zkQ ha hnL,ha.some hnL,hnL,hn0,hn1,yqj,yqk,implies_true,true_and,and_true,and_self]
   refine zhE (fun _=>zFD x a.l[k] a.l[m.l[k].toNat] _ hx (ha.el hkL) (ha.el hnL)) ?_
   simp (maxSteps:=2000000) only [go_sem,yqa,yqb,yqc,yqd,yqe,yqf,zkQ ha hkL,ha.some hkL,hkL,hkL2,zkQ ha hnL,ha.some hnL,hnL,hn0,hn1,yqj,yqk,implies_true,true_and,and_true,and_self]
   refine zAS [10] rfl (by kernel_rfl) ?_
   simp (maxSteps:=2000000) only [go_sem,yqa,yqb,yqc,yqd,yqe,yqf,zkQ ha hkL,ha.some hkL,hkL,hkL2,zkQ ha hnL,ha.some hnL,hnL,hn0,hn1,yqj,yqk,implies_true,true_and,and_true,and_self]
   refine zAY (by kernel_rfl) ?_
   refine Wk ?_
   refine zc9 rfl (fun hq3=>?_) (fun hq3=>?_)
   ·refine Wk ?_
    rw [zGo hgo (by rw [hA];exact of_decide_eq_true hq3) hlt]
    rfl
   ·have hgo2:=zGp hgo (by rw [hA];exact of_decide_eq_false hq3)
    rw [hA] at hgo2
    refine Wk ?_
    refine ⟨(k+1,IntKind.i64.wrap (z+zFt (Con.con x) (Con.con a.l[k]) (Con.con a.l[m.l[k].toNat]))),⟨hlt,hgo2⟩,by simp only;omega,?_⟩
    refine Evs ?_
    exact zjA (zjz hlt (by omega))
  ·have hq2:=of_decide_eq_false hq2
   have hA:zGi (Con.con x.chart) x.regime (zGl (Con.con x) a.l) k (m.l.getD k 0)=0:=by rw [zGi,hmk,if_neg hq,if_neg hq2]
   refine Wk ?_
   refine zc9 rfl (fun hq3=>?_) (fun hq3=>?_)
   ·refine Wk ?_
    rw [zGo hgo (by rw [hA];exact of_decide_eq_true hq3) hlt]
    rfl
   ·have hgo2:=zGp hgo (by rw [hA];exact of_decide_eq_false hq3)
    rw [hA] at hgo2
    refine Wk ?_
    refine ⟨(k+1,IntKind.i64.wrap (z+0)),⟨hlt,hgo2⟩,by simp only;omega,?_⟩
    refine Evs ?_
    exact zjA (zjz hlt (by omega))
 ·have hge:=zjH hd
  obtain rfl:k=m.l.length:=by omega
  refine Wk ?_
  rw [hgo]
  rfl
end Go.Proofs.YtbkaaakphpbmiaaGreat
namespace Go.Proofs.YtbkaaakphpbmiaaGreat
open Go Go.SL Go.RowKit Go.ChangeShapes Go.WideShapes Go.ChangeAt Go.Deep
set_option maxHeartbeats 1000000
theorem Tryz.own:ownKnob Tryz.prog.godebug=none:=by kernel_rfl
theorem Tryz.laidOut:laidOutB Tryz.prog=true:=by kernel_rfl
theorem zFE:Tryz.prog.cellsOf 3=1:=by kernel_rfl
theorem zFF:Tryz.prog.cellsOf 4=1:=by kernel_rfl
theorem zFG:Tryz.prog.cellsOf 9=1:=by kernel_rfl
theorem zFH:Opens Int Tryz.prog 3:=zks Tryz.underlying3
set_option maxRecDepth 100000 in
theorem zFI:Opens DCall Tryz.prog 77:=by
 intro H enc w base spare held fuel cs x h
 obtain ⟨hl,hf⟩:=zku Tryz.underlying77 h
 have hl:cs.length=5:=hl.trans (by kernel_rfl)
 match cs,hl with
 | [c0,c1,c2,c3,c4],_ =>
  obtain ⟨a0,e0,o0⟩:=zly Tryz.underlying3 hf 0 0 ⟨_,rfl,rfl,rfl⟩ zFE
  have e0:[c0]=[.int .i64 a0]:=e0
  obtain ⟨a1,e1,o1⟩:=zly Tryz.underlying3 hf 1 1 ⟨_,rfl,rfl,rfl⟩ zFE
  have e1:[c1]=[.int .i64 a1]:=e1
  obtain ⟨a2,e2,o2⟩:=zly Tryz.underlying3 hf 2 2 ⟨_,rfl,rfl,rfl⟩ zFE
  have e2:[c2]=[.int .i64 a2]:=e2
  obtain ⟨a3,e3,o3⟩:=zly Tryz.underlying3 hf 3 3 ⟨_,rfl,rfl,rfl⟩ zFE
  have e3:[c3]=[.int .i64 a3]:=e3
  obtain ⟨a4,e4,o4⟩:=zly Tryz.underlying3 hf 4 4 ⟨_,rfl,rfl,rfl⟩ zFE
  have e4:[c4]=[.int .i64 a4]:=e4
  have ee:[c0] ++ [c1] ++ [c2] ++ [c3] ++ [c4]=[.int .i64 a0] ++ [.int .i64 a1] ++ [.int .i64 a2] ++ [.int .i64 a3] ++ [.int .i64 a4]:=by rw [e0,e1,e2,e3,e4]
  exact ⟨⟨a0,a1,a2,a3,a4⟩,ee,o0,o1,o2,o3,o4⟩
theorem zFJ:Opens (Sl DCall) Tryz.prog 40:=zkt Tryz.underlying40 (by kernel_rfl) zFI
set_option maxRecDepth 100000 in
theorem zH0:Opens DPassage Tryz.prog 248:=by
 intro H enc w base spare held fuel cs x h
 obtain ⟨hl,hf⟩:=zku Tryz.underlying248 h
 have hl:cs.length=5:=hl.trans (by kernel_rfl)
 match cs,hl with
 | [c0,c1,c2,c3,c4],_ =>
  obtain ⟨a0,e0,o0⟩:=zly Tryz.underlying3 hf 0 0 ⟨_,rfl,rfl,rfl⟩ zFE
  have e0:[c0]=[.int .i64 a0]:=e0
  obtain ⟨a1,e1,o1⟩:=zly Tryz.underlying3 hf 1 1 ⟨_,rfl,rfl,rfl⟩ zFE
  have e1:[c1]=[.int .i64 a1]:=e1
  obtain ⟨a2,e2⟩:=zlz Tryz.underlying4 hf 2 2 ⟨_,rfl,rfl,rfl⟩ zFF
  have e2:[c2]=[.bool a2]:=e2
  obtain ⟨a3,e3,o3⟩:=zly Tryz.underlying3 hf 3 3 ⟨_,rfl,rfl,rfl⟩ zFE
  have e3:[c3]=[.int .i64 a3]:=e3
  obtain ⟨a4,e4,o4⟩:=zly Tryz.underlying3 hf 4 4 ⟨_,rfl,rfl,rfl⟩ zFE
  have e4:[c4]=[.int .i64 a4]:=e4
  have ee:[c0] ++ [c1] ++ [c2] ++ [c3] ++ [c4]=[.int .i64 a0] ++ [.int .i64 a1] ++ [.bool a2] ++ [.int .i64 a3] ++ [.int .i64 a4]:=by rw [e0,e1,e2,e3,e4]
  exact ⟨⟨a0,a1,a2,a3,a4⟩,ee,o0,o1,o3,o4⟩
theorem zH1:Tryz.prog.cellsOf 101=1:=by kernel_rfl
theorem opens_PassageS:Opens (Sl DPassage) Tryz.prog 101:=zkt Tryz.underlying101 (by kernel_rfl) zH0
set_option maxRecDepth 100000 in
theorem zH2:Opens DOption Tryz.prog 103:=by
 intro H enc w base spare held fuel cs x h
 obtain ⟨hl,hf⟩:=zku Tryz.underlying103 h
 have hl:cs.length=4:=hl.trans (by kernel_rfl)
 match cs,hl with
 | [c0,c1,c2,c3],_ =>
  obtain ⟨a0,e0,o0⟩:=zly Tryz.underlying3 hf 0 0 ⟨_,rfl,rfl,rfl⟩ zFE
  have e0:[c0]=[.int .i64 a0]:=e0
  obtain ⟨a1,e1,o1⟩:=zly Tryz.underlying3 hf 1 1 ⟨_,rfl,rfl,rfl⟩ zFE
  have e1:[c1]=[.int .i64 a1]:=e1
  obtain ⟨a2,e2,o2⟩:=zly Tryz.underlying3 hf 2 2 ⟨_,rfl,rfl,rfl⟩ zFE
  have e2:[c2]=[.int .i64 a2]:=e2
  obtain ⟨a3,e3,o3⟩:=opens_PassageS.field hf 3 3 1 ⟨_,rfl,rfl,rfl⟩ zH1
  have e3:[c3]=Enc.enc a3:=e3
  have ee:[c0] ++ [c1] ++ [c2] ++ [c3]=[.int .i64 a0] ++ [.int .i64 a1] ++ [.int .i64 a2] ++ Enc.enc a3:=by rw [e0,e1,e2,e3]
  exact ⟨⟨a0,a1,a2,a3⟩,ee,o0,o1,o2,o3⟩
theorem zFK:Tryz.prog.cellsOf 35=1:=by kernel_rfl
theorem opens_IntS:Opens (Sl Int) Tryz.prog 35:=zkt Tryz.underlying35 (by kernel_rfl) zFH
theorem zFL:Tryz.prog.cellsOf 37=4:=by kernel_rfl
set_option maxRecDepth 100000 in
theorem opens_Crew:Opens DCrew Tryz.prog 37:=by
 intro H enc w base spare held fuel cs x h
 obtain ⟨hl,hf⟩:=zku Tryz.underlying37 h
 have hl:cs.length=4:=hl.trans (by kernel_rfl)
 match cs,hl with
 | [c0,c1,c2,c3],_ =>
  obtain ⟨a0,e0,o0⟩:=zly Tryz.underlying3 hf 0 0 ⟨_,rfl,rfl,rfl⟩ zFE
  have e0:[c0]=[.int .i64 a0]:=e0
  obtain ⟨a1,e1,o1⟩:=zly Tryz.underlying3 hf 1 1 ⟨_,rfl,rfl,rfl⟩ zFE
  have e1:[c1]=[.int .i64 a1]:=e1
  obtain ⟨a2,e2,o2⟩:=zly Tryz.underlying3 hf 2 2 ⟨_,rfl,rfl,rfl⟩ zFE
  have e2:[c2]=[.int .i64 a2]:=e2
  obtain ⟨a3,e3,o3⟩:=opens_IntS.field hf 3 3 1 ⟨_,rfl,rfl,rfl⟩ zFK
  have e3:[c3]=Enc.enc a3:=e3
  have ee:[c0] ++ [c1] ++ [c2] ++ [c3]=[.int .i64 a0] ++ [.int .i64 a1] ++ [.int .i64 a2] ++ Enc.enc a3:=by rw [e0,e1,e2,e3]
  exact ⟨⟨a0,a1,a2,a3⟩,ee,o0,o1,o2,o3⟩
set_option maxRecDepth 100000 in
theorem zFM:Opens DPart Tryz.prog 312:=by
 intro H enc w base spare held fuel cs x h
 obtain ⟨hl,hf⟩:=zku Tryz.underlying312 h
 have hl:cs.length=3:=hl.trans (by kernel_rfl)
 match cs,hl with
 | [c0,c1,c2],_ =>
  obtain ⟨a0,e0,o0⟩:=zly Tryz.underlying3 hf 0 0 ⟨_,rfl,rfl,rfl⟩ zFE
  have e0:[c0]=[.int .i64 a0]:=e0
  obtain ⟨a1,e1,o1⟩:=zly Tryz.underlying3 hf 1 1 ⟨_,rfl,rfl,rfl⟩ zFE
  have e1:[c1]=[.int .i64 a1]:=e1
  obtain ⟨a2,e2,o2⟩:=zly Tryz.underlying3 hf 2 2 ⟨_,rfl,rfl,rfl⟩ zFE
  have e2:[c2]=[.int .i64 a2]:=e2
  have ee:[c0] ++ [c1] ++ [c2]=[.int .i64 a0] ++ [.int .i64 a1] ++ [.int .i64 a2]:=by rw [e0,e1,e2]
  exact ⟨⟨a0,a1,a2⟩,ee,o0,o1,o2⟩
theorem zFN:Tryz.prog.cellsOf 22=1:=by kernel_rfl
theorem opens_PartS:Opens (Sl DPart) Tryz.prog 22:=zkt Tryz.underlying22 (by kernel_rfl) zFM
theorem zFO:Tryz.prog.cellsOf 24=2:=by kernel_rfl
set_option maxRecDepth 100000 in
theorem opens_Tide:Opens DTide Tryz.prog 24:=by
 intro H enc w base spare held fuel cs x h
 obtain ⟨hl,hf⟩:=zku Tryz.underlying24 h
 have hl:cs.length=2:=hl.trans (by kernel_rfl)
 match cs,hl with
 | [c0,c1],_ =>
  obtain ⟨a0,e0,o0⟩:=zly Tryz.underlying3 hf 0 0 ⟨_,rfl,rfl,rfl⟩ zFE
  have e0:[c0]=[.int .i64 a0]:=e0
  obtain ⟨a1,e1,o1⟩:=opens_PartS.field hf 1 1 1 ⟨_,rfl,rfl,rfl⟩ zFN
  have e1:[c1]=Enc.enc a1:=e1
  have ee:[c0] ++ [c1]=[.int .i64 a0] ++ Enc.enc a1:=by rw [e0,e1]
  exact ⟨⟨a0,a1⟩,ee,o0,o1⟩
set_option maxRecDepth 100000 in
theorem zFP:Opens DSurge Tryz.prog 268:=by
 intro H enc w base spare held fuel cs x h
 obtain ⟨hl,hf⟩:=zku Tryz.underlying268 h
 have hl:cs.length=3:=hl.trans (by kernel_rfl)
 match cs,hl with
 | [c0,c1,c2],_ =>
  obtain ⟨a0,e0,o0⟩:=zly Tryz.underlying3 hf 0 0 ⟨_,rfl,rfl,rfl⟩ zFE
  have e0:[c0]=[.int .i64 a0]:=e0
  obtain ⟨a1,e1,o1⟩:=zly Tryz.underlying3 hf 1 1 ⟨_,rfl,rfl,rfl⟩ zFE
  have e1:[c1]=[.int .i64 a1]:=e1
  obtain ⟨a2,e2,o2⟩:=zly Tryz.underlying3 hf 2 2 ⟨_,rfl,rfl,rfl⟩ zFE
  have e2:[c2]=[.int .i64 a2]:=e2
  have ee:[c0] ++ [c1] ++ [c2]=[.int .i64 a0] ++ [.int .i64 a1] ++ [.int .i64 a2]:=by rw [e0,e1,e2]
  exact ⟨⟨a0,a1,a2⟩,ee,o0,o1,o2⟩
theorem zFQ:Tryz.prog.cellsOf 25=1:=by kernel_rfl
theorem opens_SurgeS:Opens (Sl DSurge) Tryz.prog 25:=zkt Tryz.underlying25 (by kernel_rfl) zFP
theorem zFR:Tryz.prog.cellsOf 27=3:=by kernel_rfl
set_option maxRecDepth 100000 in
theorem opens_Forecast:Opens DForecast Tryz.prog 27:=by
 intro H enc w base spare held fuel cs x h
 obtain ⟨hl,hf⟩:=zku Tryz.underlying27 h
 have hl:cs.length=3:=hl.trans (by kernel_rfl)
 match cs,hl with
 | [c0,c1,c2],_ =>
  obtain ⟨a0,e0,o0⟩:=opens_Tide.field hf 0 0 2 ⟨_,rfl,rfl,rfl⟩ zFO
  have e0:[c0,c1]=Enc.enc a0:=e0
  obtain ⟨a1,e1,o1⟩:=opens_SurgeS.field hf 1 2 1 ⟨_,rfl,rfl,rfl⟩ zFQ
  have e1:[c2]=Enc.enc a1:=e1
  have ee:[c0,c1] ++ [c2]=Enc.enc a0 ++ Enc.enc a1:=by rw [e0,e1]
  exact ⟨⟨a0,a1⟩,ee,o0,o1⟩
set_option maxRecDepth 100000 in
theorem zFS:Opens DPoint Tryz.prog 265:=by
 intro H enc w base spare held fuel cs x h
 obtain ⟨hl,hf⟩:=zku Tryz.underlying265 h
 have hl:cs.length=2:=hl.trans (by kernel_rfl)
 match cs,hl with
 | [c0,c1],_ =>
  obtain ⟨a0,e0,o0⟩:=zlA Tryz.underlying9 hf 0 0 ⟨_,rfl,rfl,rfl⟩ zFG
  have e0:[c0]=[.string a0]:=e0
  obtain ⟨a1,e1⟩:=zlz Tryz.underlying4 hf 1 1 ⟨_,rfl,rfl,rfl⟩ zFF
  have e1:[c1]=[.bool a1]:=e1
  have ee:[c0] ++ [c1]=[.string a0] ++ [.bool a1]:=by rw [e0,e1]
  exact ⟨⟨a0,a1⟩,ee,o0⟩
theorem zFT:Tryz.prog.cellsOf 28=1:=by kernel_rfl
theorem opens_PointS:Opens (Sl DPoint) Tryz.prog 28:=zkt Tryz.underlying28 (by kernel_rfl) zFS
set_option maxRecDepth 100000 in
theorem zFU:Opens DSegment Tryz.prog 271:=by
 intro H enc w base spare held fuel cs x h
 obtain ⟨hl,hf⟩:=zku Tryz.underlying271 h
 have hl:cs.length=5:=hl.trans (by kernel_rfl)
 match cs,hl with
 | [c0,c1,c2,c3,c4],_ =>
  obtain ⟨a0,e0,o0⟩:=zly Tryz.underlying3 hf 0 0 ⟨_,rfl,rfl,rfl⟩ zFE
  have e0:[c0]=[.int .i64 a0]:=e0
  obtain ⟨a1,e1,o1⟩:=zly Tryz.underlying3 hf 1 1 ⟨_,rfl,rfl,rfl⟩ zFE
  have e1:[c1]=[.int .i64 a1]:=e1
  obtain ⟨a2,e2,o2⟩:=zly Tryz.underlying3 hf 2 2 ⟨_,rfl,rfl,rfl⟩ zFE
  have e2:[c2]=[.int .i64 a2]:=e2
  obtain ⟨a3,e3,o3⟩:=zly Tryz.underlying3 hf 3 3 ⟨_,rfl,rfl,rfl⟩ zFE
  have e3:[c3]=[.int .i64 a3]:=e3
  obtain ⟨a4,e4⟩:=zlz Tryz.underlying4 hf 4 4 ⟨_,rfl,rfl,rfl⟩ zFF
  have e4:[c4]=[.bool a4]:=e4
  have ee:[c0] ++ [c1] ++ [c2] ++ [c3] ++ [c4]=[.int .i64 a0] ++ [.int .i64 a1] ++ [.int .i64 a2] ++ [.int .i64 a3] ++ [.bool a4]:=by rw [e0,e1,e2,e3,e4]
  exact ⟨⟨a0,a1,a2,a3,a4⟩,ee,o0,o1,o2,o3⟩
theorem zFV:Tryz.prog.cellsOf 29=1:=by kernel_rfl
theorem opens_SegmentS:Opens (Sl DSegment) Tryz.prog 29:=zkt Tryz.underlying29 (by kernel_rfl) zFU
theorem zFW:Tryz.prog.cellsOf 31=2:=by kernel_rfl
set_option maxRecDepth 100000 in
theorem opens_Chart:Opens DChart Tryz.prog 31:=by
 intro H enc w base spare held fuel cs x h
 obtain ⟨hl,hf⟩:=zku Tryz.underlying31 h
 have hl:cs.length=2:=hl.trans (by kernel_rfl)
 match cs,hl with
 | [c0,c1],_ =>
  obtain ⟨a0,e0,o0⟩:=opens_PointS.field hf 0 0 1 ⟨_,rfl,rfl,rfl⟩ zFT
  have e0:[c0]=Enc.enc a0:=e0
  obtain ⟨a1,e1,o1⟩:=opens_SegmentS.field hf 1 1 1 ⟨_,rfl,rfl,rfl⟩ zFV
  have e1:[c1]=Enc.enc a1:=e1
  have ee:[c0] ++ [c1]=Enc.enc a0 ++ Enc.enc a1:=by rw [e0,e1]
  exact ⟨⟨a0,a1⟩,ee,o0,o1⟩
set_option maxRecDepth 100000 in
theorem zFX:Opens DShip Tryz.prog 197:=by
 intro H enc w base spare held fuel cs x h
 obtain ⟨hl,hf⟩:=zku Tryz.underlying197 h
 have hl:cs.length=6:=hl.trans (by kernel_rfl)
 match cs,hl with
 | [c0,c1,c2,c3,c4,c5],_ =>
  obtain ⟨a0,e0,o0⟩:=zlA Tryz.underlying9 hf 0 0 ⟨_,rfl,rfl,rfl⟩ zFG
  have e0:[c0]=[.string a0]:=e0
  obtain ⟨a1,e1,o1⟩:=zly Tryz.underlying3 hf 1 1 ⟨_,rfl,rfl,rfl⟩ zFE
  have e1:[c1]=[.int .i64 a1]:=e1
  obtain ⟨a2,e2,o2⟩:=zly Tryz.underlying3 hf 2 2 ⟨_,rfl,rfl,rfl⟩ zFE
  have e2:[c2]=[.int .i64 a2]:=e2
  obtain ⟨a3,e3,o3⟩:=zly Tryz.underlying3 hf 3 3 ⟨_,rfl,rfl,rfl⟩ zFE
  have e3:[c3]=[.int .i64 a3]:=e3
  obtain ⟨a4,e4,o4⟩:=zly Tryz.underlying3 hf 4 4 ⟨_,rfl,rfl,rfl⟩ zFE
  have e4:[c4]=[.int .i64 a4]:=e4
  obtain ⟨a5,e5⟩:=zlz Tryz.underlying4 hf 5 5 ⟨_,rfl,rfl,rfl⟩ zFF
  have e5:[c5]=[.bool a5]:=e5
  have ee:[c0] ++ [c1] ++ [c2] ++ [c3] ++ [c4] ++ [c5]=[.string a0] ++ [.int .i64 a1] ++ [.int .i64 a2] ++ [.int .i64 a3] ++ [.int .i64 a4] ++ [.bool a5]:=by rw [e0,e1,e2,e3,e4,e5]
  exact ⟨⟨a0,a1,a2,a3,a4,a5⟩,ee,o0,o1,o2,o3,o4⟩
theorem zFY:Tryz.prog.cellsOf 32=1:=by kernel_rfl
theorem opens_ShipS:Opens (Sl DShip) Tryz.prog 32:=zkt Tryz.underlying32 (by kernel_rfl) zFX
theorem zFZ:Tryz.prog.cellsOf 34=2:=by kernel_rfl
set_option maxRecDepth 100000 in
theorem opens_Regime:Opens DRegime Tryz.prog 34:=by
 intro H enc w base spare held fuel cs x h
 obtain ⟨hl,hf⟩:=zku Tryz.underlying34 h
 have hl:cs.length=2:=hl.trans (by kernel_rfl)
 match cs,hl with
 | [c0,c1],_ =>
  obtain ⟨a0,e0,o0⟩:=zly Tryz.underlying3 hf 0 0 ⟨_,rfl,rfl,rfl⟩ zFE
  have e0:[c0]=[.int .i64 a0]:=e0
  obtain ⟨a1,e1⟩:=zlz Tryz.underlying4 hf 1 1 ⟨_,rfl,rfl,rfl⟩ zFF
  have e1:[c1]=[.bool a1]:=e1
  have ee:[c0] ++ [c1]=[.int .i64 a0] ++ [.bool a1]:=by rw [e0,e1]
  exact ⟨⟨a0,a1⟩,ee,o0⟩
set_option maxRecDepth 100000 in
theorem zF0:Opens DHarbour Tryz.prog 39:=by
 intro H enc w base spare held fuel cs x h
 obtain ⟨hl,hf⟩:=zku Tryz.underlying39 h
 have hl:cs.length=12:=hl.trans (by kernel_rfl)
 match cs,hl with
 | [c0,c1,c2,c3,c4,c5,c6,c7,c8,c9,c10,c11],_ =>
  obtain ⟨a0,e0,o0⟩:=opens_Forecast.field hf 0 0 3 ⟨_,rfl,rfl,rfl⟩ zFR
  have e0:[c0,c1,c2]=Enc.enc a0:=e0
  obtain ⟨a1,e1,o1⟩:=opens_Chart.field hf 1 3 2 ⟨_,rfl,rfl,rfl⟩ zFW
  have e1:[c3,c4]=Enc.enc a1:=e1
  obtain ⟨a2,e2,o2⟩:=opens_ShipS.field hf 2 5 1 ⟨_,rfl,rfl,rfl⟩ zFY
  have e2:[c5]=Enc.enc a2:=e2
  obtain ⟨a3,e3,o3⟩:=opens_Regime.field hf 3 6 2 ⟨_,rfl,rfl,rfl⟩ zFZ
  have e3:[c6,c7]=Enc.enc a3:=e3
  obtain ⟨a4,e4,o4⟩:=opens_Crew.field hf 4 8 4 ⟨_,rfl,rfl,rfl⟩ zFL
  have e4:[c8,c9,c10,c11]=Enc.enc a4:=e4
  have ee:[c0,c1,c2] ++ [c3,c4] ++ [c5] ++ [c6,c7] ++ [c8,c9,c10,c11]=Enc.enc a0 ++ Enc.enc a1 ++ Enc.enc a2 ++ Enc.enc a3 ++ Enc.enc a4:=by rw [e0,e1,e2,e3,e4]
  exact ⟨⟨a0,a1,a2,a3,a4⟩,ee,o0,o1,o2,o3,o4⟩
end Go.Proofs.YtbkaaakphpbmiaaGreat
namespace Go.Proofs.YtbkaaakphpbmiaaGreat
open Go Go.SL
set_option maxHeartbeats 1000000
theorem zGA (n:Int):bstr [n]=⟨#[UInt8.ofNat n.toNat]⟩:=rfl
theorem zGB (a b:List UInt8):(⟨a.toArray⟩:ByteArray) ++ ⟨b.toArray⟩=⟨(a ++ b).toArray⟩:=by
 ext1
 simp [ByteArray.data_append]
theorem zGC:∀ (f n:Nat) (acc:List UInt8),zmm f n acc=zmm f n [] ++ acc
 | 0,_,acc=>rfl
 | f+1,n,acc=>by
  unfold zmm
  split
  ·rfl
  ·rw [zGC f _ (_ :: acc),zGC f _ [_]];simp
theorem zGD:∀ (f n:Nat),(zmm f n []).length≤f
 | 0,_=>Nat.le_refl _
 | f+1,n=>by
  unfold zmm
  split
  ·exact Nat.zero_le _
  ·rw [zGC,List.length_append];have:=zGD f (n / 10);simp only [List.length_cons,List.length_nil];omega
theorem zGE {f:Nat} {acc:List UInt8}:zmm f 0 acc=acc:=by cases f <;> rfl
theorem zGF (k:Int):(mkT k).size≤65:=by
 unfold mkT
 show (List.toArray _).size≤65
 rw [List.size_toArray,List.length_cons]
 split
 ·simp
 ·have:=zGD 64 k.toNat;omega
theorem zGG (k:Int) (h:Hp) (hk:k≤4611686018427387904):Ct Tryz.prog 162 [.int .i64 k] h fun v h'=>v=.string (mkT k)∧h'=h:=by
 refine Ct.forget ?_
 refine zdm (fun A W=>by simp) Tryz.func162 rfl rfl (by simp) fun W0=>?_
 refine Wk ?_
 refine zc9 rfl (fun hc=>?_) (fun hc=>?_)
 ·refine Wk ?_
  rw [mkT,if_pos (of_decide_eq_true hc)]
 have hc:=of_decide_eq_false hc
 refine Wk ?_
 refine zm6 (ι:=Nat × Nat × List UInt8) (fun i=>⟨[(0,true,.c (.v (.int .i64 (i.2.1:Int)))),(3,true,.c (.v (.string ⟨i.2.2.toArray⟩)))],[],h,0⟩) (fun i=>zmm i.1 i.2.1 i.2.2=zmm 64 k.toNat []∧i.2.1 < 10 ^ i.1∧i.1+i.2.2.length=64∧i.2.1≤4611686018427387904) (fun i=>i.1) (64,k.toNat,[]) ⟨rfl,by simp only;omega,rfl,by simp only;omega⟩ [] ?_ ?_
 ·refine Evs ?_
  refine ⟨zjA ?_,rfl⟩
  omega
 rintro ⟨f,n,acc⟩ ⟨h1,h2,h3,h4⟩
 simp only at h1 h2 h3 h4
 refine Wk ?_
 refine zc9 rfl (fun hd=>?_) (fun hd=>?_)
 ·have hn:0 < n:=by have:=of_decide_eq_true hd;omega
  obtain ⟨f,rfl⟩:∃ f',f=f'+1:=⟨f - 1,by cases f with|zero=>simp at h2;omega|succ f=>rfl⟩
  have hm:Int.tmod (n:Int) 10=((n % 10:Nat):Int):=by rw [Int.tmod_eq_emod_of_nonneg (by omega)];omega
  have hw1:IntKind.i64.wrap (48+((n % 10:Nat):Int))=((48+n % 10:Nat):Int):=by rw [zjy (by omega)];omega
  have hw2:IntKind.u8.wrap ((48+n % 10:Nat):Int)=((48+n % 10:Nat):Int):=by
   have:n % 10 < 10:=Nat.mod_lt _ (by decide)
   show (((48+n % 10:Nat):Int)) % 256=_
   omega
  have hq:Int.tdiv (n:Int) 10=((n / 10:Nat):Int):=by rw [Int.tdiv_eq_ediv_of_nonneg (by omega)];omega
  have hw3:IntKind.i64.wrap ((n / 10:Nat):Int)=((n / 10:Nat):Int):=zjy (by omega)
  refine zc5 ?_
  refine Evs ?_
  refine zc8 ?_
  refine zAl [0,0,0,0,0,4] rfl ?_
  simp (maxSteps:=2000000) only [go_sem,yqa,yqb,yqc,yqd,yqe,yqf,hm,hw1,hw2]
  refine ⟨by decide,?_⟩
  refine zAm (ns:=[((48+n % 10:Nat):Int)]) rfl rfl Tryz.underlying279 Tryz.underlying5 Tryz.underlying9 ?_
  refine Evs ?_
  have hsz:(bstr [((48+n % 10:Nat):Int)]).size=1:=rfl
  refine ⟨by rw [hsz,List.size_toArray];omega,?_⟩
  repeat' first|refine zid rfl ?_|refine zc4 rfl ?_|refine zc7 ?_|refine zc8 ?_|refine zc5 ?_|refine zc6 ?_|(simp (maxSteps:=2000000) only [go_sem,yqa,yqb,yqc,yqd,yqe,yqf,hq,hw3];try rfl)|refine zc3 ?_|(refine And.intro ?_ ?_;focus (intros;simp_all only [yqg,yqh,yqi,and_self,true_and,and_true];done))
  refine ⟨by decide,?_⟩
  repeat' first|refine zid rfl ?_|refine zc4 rfl ?_|refine zc7 ?_|refine zc8 ?_|refine zc5 ?_|refine zc6 ?_|(simp (maxSteps:=2000000) only [go_sem,yqa,yqb,yqc,yqd,yqe,yqf,hq,hw3];try rfl)|refine zc3 ?_|(refine And.intro ?_ ?_;focus (intros;simp_all only [yqg,yqh,yqi,and_self,true_and,and_true];done))
  refine ⟨(f,n / 10,UInt8.ofNat (48+n % 10) :: acc),[],⟨?_,?_,?_,?_⟩,by simp only;omega,?_⟩
  ·simp only
   rw [← h1]
   conv=>rhs;unfold zmm
   rw [if_neg (by omega)]
  ·simp only
   rw [Nat.pow_succ] at h2
   omega
  ·simp only [List.length_cons];omega
  ·simp only;omega
  refine Evs ?_
  refine ⟨?_,rfl⟩
  rw [zGA,yqj]
  congr 5
 ·have hn:n=0:=by have:=of_decide_eq_false hd;omega
  subst hn
  rw [zGE] at h1
  refine Wk ?_
  refine ⟨by rw [List.size_toArray];simp;omega,?_⟩
  refine Wk ?_
  rw [mkT,if_neg hc,← h1]
  exact congrArg Value.string (zGB [109] acc)
end Go.Proofs.YtbkaaakphpbmiaaGreat
namespace Go.Proofs.YtbkaaakphpbmiaaGreat
open Go Go.SL
set_option maxHeartbeats 1000000
theorem zGH (s:Sl Int) (k:Int) (h:Hp) (hs:s.Ok h) (ho:Foot.own h s) (hn:(Foot.foot s).Nodup) (hk:0≤k∧k+(Mk.cnt s:Nat)≤4611686018427387904):Cw Tryz.prog 26 [s.val,.int .i64 k] h (fun b=>b ∈ Foot.foot s) fun v h'=>v=.int .i64 (k+(Mk.cnt s:Nat))∧Enc.ok h' (Mk.put s k)∧Foot.own h' (Mk.put s k):=by
 have hmax:=hs.max
 have hcs:Mk.cnt s=cntL s.l:=rfl
 by_cases hl:s.l=[]
 ·refine zlE (fun A W=>by simp) Tryz.func26 rfl rfl (by simp)  (fun b hb=>Foot.dom ho b hb) fun W0 hW=>?_
  refine Wk ?_
  refine zdd (ι:=Unit) (fun _=>⟨[(0,true,.c (.v s.val)),(1,true,.c (.v (.int .i64 k))),(5,true,.c (.v (.int .i64 0)))],[],h,0⟩) (fun _=>True) (fun _=>0) () trivial ?_ ?_
  ·exact Evc
  rintro _ _
  refine Wk ?_
  refine zc9 rfl (fun hc=>?_) (fun hc=>?_)
  ·exact absurd (of_decide_eq_true hc) (by rw [hl];simp)
  ·refine Wk ?_
   refine ⟨by rw [hcs,hl];simp [cntL],⟨(by simp [Mk.put,hl,mkL]),fun hne=>(hne (by simp [Mk.put,hl,mkL])).elim,fun i x hx=>by simp [Mk.put,hl,mkL] at hx,fun x hx=>by simp [Mk.put,hl,mkL] at hx,hs.2.2.2.2⟩,fun hne=>(hne (by simp [Mk.put,hl,mkL])).elim⟩
 obtain ⟨g,e,spare,ha,hb,hsp⟩:=zml (by decide) hs ho hl
 have hsz:Enc.size Int=1:=rfl
 have hfoot:g ∈ Foot.foot s:=by
  rw [show Foot.foot s=_ from Sl.foot_ne hl]
  simp [Sl.blkOf,ha]
 refine zlE (fun A W=>by simp) Tryz.func26 rfl rfl (by simp)  (fun b hb=>Foot.dom ho b hb) fun W0 hW=>?_
 refine Wk ?_
 refine zdd (ι:=Nat × Hp) (fun i=>⟨[(0,true,.c (.v s.val)),(1,true,.c (.v (.int .i64 (k+(cntL (s.l.take i.1):Nat))))),(5,true,.c (.v (.int .i64 i.1)))],[],i.2,0⟩) (fun i=>i.1≤s.l.length∧i.2 g=some (.cells (rowL (mkd s.l k i.1) spare).toArray e (0,0))∧∀ x ∈ mkd s.l k i.1,Enc.ok i.2 x) (fun i=>s.l.length - i.1) (0,h) ⟨Nat.zero_le _,by rw [zma];exact hb,by rw [zma];exact hs.2.2.2.1⟩ ?_ ?_
 ·refine Evs ?_
  exact ⟨zjA (by rw [zl2];omega),rfl⟩
 rintro ⟨i,hk'⟩ ⟨hi,hb0,hok⟩
 refine Wk ?_
 refine zc9 rfl (fun hd=>?_) (fun hd=>?_)
 ·have hlt:=zjG hd
  have hcnt:=zl8 hlt
  have hcle:=zl9 (l:=s.l) (i:=i+1)
  have hc:Mk.cnt s.l[i]=1:=rfl
  generalize hκ:k+((cntL (s.l.take i):Nat):Int)=κ
  have hκ0:0≤κ∧κ+1≤4611686018427387904:=by omega
  have hlen:i * 1+1≤(rowL (mkd s.l k i) spare).length:=by rw [zmf,zmc,hsz];omega
  generalize hX:rowL (mkd s.l k i) spare=X0 at hb0 hlen
  refine zc5 ?_
  refine Evs ?_
  refine zc3 ?_
  refine zc8 ?_
  refine zlO [0,0,0,0,1] rfl ?_
  simp (maxSteps:=2000000) only [go_sem,yqa,yqb,yqc,yqd,yqe,yqf,ha,hlt,Option.map_some,za4,Option.isSome_some,yqj,Nat.zero_add,Nat.add_zero,List.toList_toArray,Hp.ins_ins]
  refine zlZ (by simp only [go_sem]) (by simp only [go_sem]) rfl rfl hb0 (.inr (hW _ hfoot)) (by simp only [List.size_toArray];omega) ?_
  simp (maxSteps:=2000000) only [go_sem,yqa,yqb,yqc,yqd,yqe,yqf,ha,hlt,Option.map_some,za4,Option.isSome_some,yqj,Nat.zero_add,Nat.add_zero,List.toList_toArray,Hp.ins_ins]
  refine zc4 rfl ?_
  refine Evs ?_
  rw [zjy (by omega)]
  refine Wk ?_
  refine ⟨(i+1,hk'.ins g (.cells (spl (i * 1) [.int .i64 (κ)] X0).toArray e (0,0))),⟨hlt,?_,fun x hx=>?_⟩,by simp only;omega,?_⟩
  ·rw [← zme hlt,← zmg (by rw [zmc];exact hlt),hX]
   simp only
   rw [Hp.ins_same]
   congr 4
   simp only [show k+((cntL (List.take i s.l):Nat):Int)=κ from hκ,Mk.put,Enc.enc]
   try simp only [mkB,Int.add_assoc,Int.reduceAdd]
   try rfl
  ·simp only at hx ⊢
   rw [← zme hlt] at hx
   rcases List.mem_or_eq_of_mem_set hx with hx|rfl
   ·exact hok x hx
   ·exact (show I64 (Mk.put (α:=Int) _ _) from by show I64 (_+_);unfold I64;omega)
  ·refine Evs ?_
   exact ⟨zjA (by rw [hcnt,hc];omega),zjA (zjz hlt (by omega))⟩
 ·have hge:=zjH hd
  have hie:i=s.l.length:=Nat.le_antisymm hi hge
  refine Wk ?_
  have hp:mkd s.l k i=(Mk.put s k).l:=zmb hge
  rw [hp] at hb0 hok
  have hll:(Mk.put s k).l.length=s.l.length:=zl5
  have hsl:=zmk (α:=Int) (h:=hk') (g:=g) (cap:=s.cap) (by decide) hb0 (by rw [hll];exact hs.1) hs.2.2.2.2 hok
  have hsv:(Sl.mk (some ⟨g,0,none⟩) s.cap (Mk.put s k).l:Sl Int)=Mk.put s k:=by rw [← ha];rfl
  rw [hsv] at hsl
  refine ⟨by rw [hie,List.take_length,hcs],hsl,fun _=>⟨⟨g,_,e,ha,hb0,?_⟩,fun x hx=>trivial⟩⟩
  rw [List.size_toArray,zmf,hll,hsp]
  rfl
theorem zGI (s:Sl DCall) (k:Int) (h:Hp) (hs:s.Ok h) (ho:Foot.own h s) (hn:(Foot.foot s).Nodup) (hk:0≤k∧k+(Mk.cnt s:Nat)≤4611686018427387904):Cw Tryz.prog 25 [s.val,.int .i64 k] h (fun b=>b ∈ Foot.foot s) fun v h'=>v=.int .i64 (k+(Mk.cnt s:Nat))∧Enc.ok h' (Mk.put s k)∧Foot.own h' (Mk.put s k):=by
 have hmax:=hs.max
 have hcs:Mk.cnt s=cntL s.l:=rfl
 by_cases hl:s.l=[]
 ·refine zlE (fun A W=>by simp) Tryz.func25 rfl rfl (by simp)  (fun b hb=>Foot.dom ho b hb) fun W0 hW=>?_
  refine Wk ?_
  refine zdd (ι:=Unit) (fun _=>⟨[(0,true,.c (.v s.val)),(1,true,.c (.v (.int .i64 k))),(5,true,.c (.v (.int .i64 0)))],[],h,0⟩) (fun _=>True) (fun _=>0) () trivial ?_ ?_
  ·exact Evc
  rintro _ _
  refine Wk ?_
  refine zc9 rfl (fun hc=>?_) (fun hc=>?_)
  ·exact absurd (of_decide_eq_true hc) (by rw [hl];simp)
  ·refine Wk ?_
   refine ⟨by rw [hcs,hl];simp [cntL],⟨(by simp [Mk.put,hl,mkL]),fun hne=>(hne (by simp [Mk.put,hl,mkL])).elim,fun i x hx=>by simp [Mk.put,hl,mkL] at hx,fun x hx=>by simp [Mk.put,hl,mkL] at hx,hs.2.2.2.2⟩,fun hne=>(hne (by simp [Mk.put,hl,mkL])).elim⟩
 obtain ⟨g,e,spare,ha,hb,hsp⟩:=zml (by decide) hs ho hl
 have hsz:Enc.size DCall=5:=rfl
 have hfoot:g ∈ Foot.foot s:=by
  rw [show Foot.foot s=_ from Sl.foot_ne hl]
  simp [Sl.blkOf,ha]
 refine zlE (fun A W=>by simp) Tryz.func25 rfl rfl (by simp)  (fun b hb=>Foot.dom ho b hb) fun W0 hW=>?_
 refine Wk ?_
 refine zdd (ι:=Nat × Hp) (fun i=>⟨[(0,true,.c (.v s.val)),(1,true,.c (.v (.int .i64 (k+(cntL (s.l.take i.1):Nat))))),(5,true,.c (.v (.int .i64 i.1)))],[],i.2,0⟩) (fun i=>i.1≤s.l.length∧i.2 g=some (.cells (rowL (mkd s.l k i.1) spare).toArray e (0,0))∧∀ x ∈ mkd s.l k i.1,Enc.ok i.2 x) (fun i=>s.l.length - i.1) (0,h) ⟨Nat.zero_le _,by rw [zma];exact hb,by rw [zma];exact hs.2.2.2.1⟩ ?_ ?_
 ·refine Evs ?_
  exact ⟨zjA (by rw [zl2];omega),rfl⟩
 rintro ⟨i,hk'⟩ ⟨hi,hb0,hok⟩
 refine Wk ?_
 refine zc9 rfl (fun hd=>?_) (fun hd=>?_)
 ·have hlt:=zjG hd
  have hcnt:=zl8 hlt
  have hcle:=zl9 (l:=s.l) (i:=i+1)
  have hc:Mk.cnt s.l[i]=5:=rfl
  generalize hκ:k+((cntL (s.l.take i):Nat):Int)=κ
  have hκ0:0≤κ∧κ+5≤4611686018427387904:=by omega
  have hlen:i * 5+5≤(rowL (mkd s.l k i) spare).length:=by rw [zmf,zmc,hsz];omega
  generalize hX:rowL (mkd s.l k i) spare=X0 at hb0 hlen
  refine zc5 ?_
  refine Evs ?_
  refine zc3 ?_
  refine zc8 ?_
  refine zlO [0,0,0,0,0,1] rfl ?_
  simp (maxSteps:=2000000) only [go_sem,yqa,yqb,yqc,yqd,yqe,yqf,ha,hlt,Option.map_some,za4,Option.isSome_some,yqj,Nat.zero_add,Nat.add_zero,List.toList_toArray,Hp.ins_ins]
  refine zlZ (by simp only [go_sem]) (by simp only [go_sem]) rfl rfl hb0 (.inr (hW _ hfoot)) (by simp only [List.size_toArray];omega) ?_
  simp (maxSteps:=2000000) only [go_sem,yqa,yqb,yqc,yqd,yqe,yqf,ha,hlt,Option.map_some,za4,Option.isSome_some,yqj,Nat.zero_add,Nat.add_zero,List.toList_toArray,Hp.ins_ins]
  refine zid rfl ?_
  refine Evs ?_
  rw [zjy (by omega)]
  have hsl1:(spl (i * 5) [.int .i64 (κ)] X0).length=X0.length:=zmj (by simp only [List.length_cons,List.length_nil];omega)
  refine zlO [0,0,0,0,0,1] rfl ?_
  simp (maxSteps:=2000000) only [go_sem,yqa,yqb,yqc,yqd,yqe,yqf,ha,hlt,Option.map_some,za4,Option.isSome_some,yqj,Nat.zero_add,Nat.add_zero,List.toList_toArray,Hp.ins_ins]
  refine zlZ (by simp only [go_sem]) (by simp only [go_sem]) rfl rfl Hp.ins_same (.inr (hW _ hfoot)) (by simp only [List.size_toArray,hsl1];omega) ?_
  simp (maxSteps:=2000000) only [go_sem,yqa,yqb,yqc,yqd,yqe,yqf,ha,hlt,Option.map_some,za4,Option.isSome_some,yqj,Nat.zero_add,Nat.add_zero,List.toList_toArray,Hp.ins_ins]
  rw [show spl (i * 5+1) [.int .i64 (κ+1)] (spl (i * 5) [.int .i64 (κ)] X0)=spl (i * 5) [.int .i64 (κ),.int .i64 (κ+1)] X0 from zmi (m:=[.int .i64 (κ)]) (by simp only [List.length_cons,List.length_nil];omega)]
  refine zid rfl ?_
  refine Evs ?_
  rw [zjy (by omega)]
  have hsl2:(spl (i * 5) [.int .i64 (κ),.int .i64 (κ+1)] X0).length=X0.length:=zmj (by simp only [List.length_cons,List.length_nil];omega)
  refine zlO [0,0,0,0,0,1] rfl ?_
  simp (maxSteps:=2000000) only [go_sem,yqa,yqb,yqc,yqd,yqe,yqf,ha,hlt,Option.map_some,za4,Option.isSome_some,yqj,Nat.zero_add,Nat.add_zero,List.toList_toArray,Hp.ins_ins]
  refine zlZ (by simp only [go_sem]) (by simp only [go_sem]) rfl rfl Hp.ins_same (.inr (hW _ hfoot)) (by simp only [List.size_toArray,hsl2];omega) ?_
  simp (maxSteps:=2000000) only [go_sem,yqa,yqb,yqc,yqd,yqe,yqf,ha,hlt,Option.map_some,za4,Option.isSome_some,yqj,Nat.zero_add,Nat.add_zero,List.toList_toArray,Hp.ins_ins]
  rw [show spl (i * 5+2) [.int .i64 (κ+1+1)] (spl (i * 5) [.int .i64 (κ),.int .i64 (κ+1)] X0)=spl (i * 5) [.int .i64 (κ),.int .i64 (κ+1),.int .i64 (κ+1+1)] X0 from zmi (m:=[.int .i64 (κ),.int .i64 (κ+1)]) (by simp only [List.length_cons,List.length_nil];omega)]
  refine zid rfl ?_
  refine Evs ?_
  rw [zjy (by omega)]
  have hsl3:(spl (i * 5) [.int .i64 (κ),.int .i64 (κ+1),.int .i64 (κ+1+1)] X0).length=X0.length:=zmj (by simp only [List.length_cons,List.length_nil];omega)
  refine zlO [0,0,0,0,0,1] rfl ?_
  simp (maxSteps:=2000000) only [go_sem,yqa,yqb,yqc,yqd,yqe,yqf,ha,hlt,Option.map_some,za4,Option.isSome_some,yqj,Nat.zero_add,Nat.add_zero,List.toList_toArray,Hp.ins_ins]
  refine zlZ (by simp only [go_sem]) (by simp only [go_sem]) rfl rfl Hp.ins_same (.inr (hW _ hfoot)) (by simp only [List.size_toArray,hsl3];omega) ?_
  simp (maxSteps:=2000000) only [go_sem,yqa,yqb,yqc,yqd,yqe,yqf,ha,hlt,Option.map_some,za4,Option.isSome_some,yqj,Nat.zero_add,Nat.add_zero,List.toList_toArray,Hp.ins_ins]
  rw [show spl (i * 5+3) [.int .i64 (κ+1+1+1)] (spl (i * 5) [.int .i64 (κ),.int .i64 (κ+1),.int .i64 (κ+1+1)] X0)=spl (i * 5) [.int .i64 (κ),.int .i64 (κ+1),.int .i64 (κ+1+1),.int .i64 (κ+1+1+1)] X0 from zmi (m:=[.int .i64 (κ),.int .i64 (κ+1),.int .i64 (κ+1+1)]) (by simp only [List.length_cons,List.length_nil];omega)]
  refine zid rfl ?_
  refine Evs ?_
  rw [zjy (by omega)]
  have hsl4:(spl (i * 5) [.int .i64 (κ),.int .i64 (κ+1),.int .i64 (κ+1+1),.int .i64 (κ+1+1+1)] X0).length=X0.length:=zmj (by simp only [List.length_cons,List.length_nil];omega)
  refine zlO [0,0,0,0,0,1] rfl ?_
  simp (maxSteps:=2000000) only [go_sem,yqa,yqb,yqc,yqd,yqe,yqf,ha,hlt,Option.map_some,za4,Option.isSome_some,yqj,Nat.zero_add,Nat.add_zero,List.toList_toArray,Hp.ins_ins]
  refine zlZ (by simp only [go_sem]) (by simp only [go_sem]) rfl rfl Hp.ins_same (.inr (hW _ hfoot)) (by simp only [List.size_toArray,hsl4];omega) ?_
  simp (maxSteps:=2000000) only [go_sem,yqa,yqb,yqc,yqd,yqe,yqf,ha,hlt,Option.map_some,za4,Option.isSome_some,yqj,Nat.zero_add,Nat.add_zero,List.toList_toArray,Hp.ins_ins]
  rw [show spl (i * 5+4) [.int .i64 (κ+1+1+1+1)] (spl (i * 5) [.int .i64 (κ),.int .i64 (κ+1),.int .i64 (κ+1+1),.int .i64 (κ+1+1+1)] X0)=spl (i * 5) [.int .i64 (κ),.int .i64 (κ+1),.int .i64 (κ+1+1),.int .i64 (κ+1+1+1),.int .i64 (κ+1+1+1+1)] X0 from zmi (m:=[.int .i64 (κ),.int .i64 (κ+1),.int .i64 (κ+1+1),.int .i64 (κ+1+1+1)]) (by simp only [List.length_cons,List.length_nil];omega)]
  refine zc4 rfl ?_
  refine Evs ?_
  rw [zjy (by omega)]
  refine Wk ?_
  refine ⟨(i+1,hk'.ins g (.cells (spl (i * 5) [.int .i64 (κ),.int .i64 (κ+1),.int .i64 (κ+1+1),.int .i64 (κ+1+1+1),.int .i64 (κ+1+1+1+1)] X0).toArray e (0,0))),⟨hlt,?_,fun x hx=>?_⟩,by simp only;omega,?_⟩
  ·rw [← zme hlt,← zmg (by rw [zmc];exact hlt),hX]
   simp only
   rw [Hp.ins_same]
   congr 4
   simp only [show k+((cntL (List.take i s.l):Nat):Int)=κ from hκ,Mk.put,Enc.enc,DCall.cells]
   try simp only [mkB,Int.add_assoc,Int.reduceAdd]
   try rfl
  ·simp only at hx ⊢
   rw [← zme hlt] at hx
   rcases List.mem_or_eq_of_mem_set hx with hx|rfl
   ·exact hok x hx
   ·exact (show I64 _∧I64 _∧I64 _∧I64 _∧I64 _ from by unfold I64;simp only [Mk.put];omega)
  ·refine Evs ?_
   exact ⟨zjA (by rw [hcnt,hc];omega),zjA (zjz hlt (by omega))⟩
 ·have hge:=zjH hd
  have hie:i=s.l.length:=Nat.le_antisymm hi hge
  refine Wk ?_
  have hp:mkd s.l k i=(Mk.put s k).l:=zmb hge
  rw [hp] at hb0 hok
  have hll:(Mk.put s k).l.length=s.l.length:=zl5
  have hsl:=zmk (α:=DCall) (h:=hk') (g:=g) (cap:=s.cap) (by decide) hb0 (by rw [hll];exact hs.1) hs.2.2.2.2 hok
  have hsv:(Sl.mk (some ⟨g,0,none⟩) s.cap (Mk.put s k).l:Sl DCall)=Mk.put s k:=by rw [← ha];rfl
  rw [hsv] at hsl
  refine ⟨by rw [hie,List.take_length,hcs],hsl,fun _=>⟨⟨g,_,e,ha,hb0,?_⟩,fun x hx=>trivial⟩⟩
  rw [List.size_toArray,zmf,hll,hsp]
  rfl
theorem zGJ (c:DCrew) (k:Int) (h:Hp) (hc:Enc.ok h c) (ho:Foot.own h c) (hn:(Foot.foot c).Nodup) (hk:0≤k∧k+(zmy c:Nat)≤4611686018427387904):Cw Tryz.prog 86 [c.v,.int .i64 k] h (fun b=>b ∈ Foot.foot c) fun v h'=>v=.int .i64 (k+(zmy c:Nat))∧Enc.ok h' (zmx c k)∧Foot.own h' (zmx c k):=by
 have hdom:=fun b hb=>Foot.dom (x:=c) ho b hb
 have hcv:zmy c=Mk.cnt c.moves:=rfl
 have hft:Foot.foot c=Foot.foot c.moves:=rfl
 rw [hft] at hn
 rw [zmo] at ho
 have hmem:∀ b,b ∈ Foot.foot c ↔ b ∈ Foot.foot c.moves:=fun b=>by rw [hft]
 have ok0_0:Enc.ok h c.moves:=hc.2.2.2
 have ow0_0:Foot.own h c.moves:=ho
 have nd0:(Foot.foot c.moves).Nodup:=hn
 refine zlE (fun A W=>by simp) Tryz.func86 rfl rfl (by simp)  hdom fun W0 hW=>?_
 refine zid rfl ?_
 refine Evs ?_
 refine zlO [0,0,0,1] rfl ?_
 refine Evs ?_
 refine zlF (x:=⟨Tryz.prog,W0,h,_⟩) (zGH c.moves (k) _ ok0_0 ow0_0 nd0 (by omega)) rfl (fun b hb=>⟨Foot.dom (x:=c.moves) ow0_0 b hb,.inr (hW b ((hmem b).2 hb))⟩) ?_
 rintro v h0 kp0 ⟨rfl,pk0,pw0⟩
 refine Evs ?_
 repeat' first|refine zid rfl ?_|refine zc4 rfl ?_|refine zc7 ?_|refine zc8 ?_|refine zc5 ?_|refine zc6 ?_|(simp (maxSteps:=2000000) only [go_sem,yqa,yqb,yqc,yqd,yqe,yqf];try rfl)|refine zc3 ?_
 exact ⟨by rw [hcv],⟨hc.1,hc.2.1,hc.2.2.1,pk0⟩,pw0⟩
theorem zGK (s:Sl DPart) (k:Int) (h:Hp) (hs:s.Ok h) (ho:Foot.own h s) (hn:(Foot.foot s).Nodup) (hk:0≤k∧k+(Mk.cnt s:Nat)≤4611686018427387904):Cw Tryz.prog 226 [s.val,.int .i64 k] h (fun b=>b ∈ Foot.foot s) fun v h'=>v=.int .i64 (k+(Mk.cnt s:Nat))∧Enc.ok h' (Mk.put s k)∧Foot.own h' (Mk.put s k):=by
 have hmax:=hs.max
 have hcs:Mk.cnt s=cntL s.l:=rfl
 by_cases hl:s.l=[]
 ·refine zlE (fun A W=>by simp) Tryz.func226 rfl rfl (by simp)  (fun b hb=>Foot.dom ho b hb) fun W0 hW=>?_
  refine Wk ?_
  refine zdd (ι:=Unit) (fun _=>⟨[(0,true,.c (.v s.val)),(1,true,.c (.v (.int .i64 k))),(5,true,.c (.v (.int .i64 0)))],[],h,0⟩) (fun _=>True) (fun _=>0) () trivial ?_ ?_
  ·exact Evc
  rintro _ _
  refine Wk ?_
  refine zc9 rfl (fun hc=>?_) (fun hc=>?_)
  ·exact absurd (of_decide_eq_true hc) (by rw [hl];simp)
  ·refine Wk ?_
   refine ⟨by rw [hcs,hl];simp [cntL],⟨(by simp [Mk.put,hl,mkL]),fun hne=>(hne (by simp [Mk.put,hl,mkL])).elim,fun i x hx=>by simp [Mk.put,hl,mkL] at hx,fun x hx=>by simp [Mk.put,hl,mkL] at hx,hs.2.2.2.2⟩,fun hne=>(hne (by simp [Mk.put,hl,mkL])).elim⟩
 obtain ⟨g,e,spare,ha,hb,hsp⟩:=zml (by decide) hs ho hl
 have hsz:Enc.size DPart=3:=rfl
 have hfoot:g ∈ Foot.foot s:=by
  rw [show Foot.foot s=_ from Sl.foot_ne hl]
  simp [Sl.blkOf,ha]
 refine zlE (fun A W=>by simp) Tryz.func226 rfl rfl (by simp)  (fun b hb=>Foot.dom ho b hb) fun W0 hW=>?_
 refine Wk ?_
 refine zdd (ι:=Nat × Hp) (fun i=>⟨[(0,true,.c (.v s.val)),(1,true,.c (.v (.int .i64 (k+(cntL (s.l.take i.1):Nat))))),(5,true,.c (.v (.int .i64 i.1)))],[],i.2,0⟩) (fun i=>i.1≤s.l.length∧i.2 g=some (.cells (rowL (mkd s.l k i.1) spare).toArray e (0,0))∧∀ x ∈ mkd s.l k i.1,Enc.ok i.2 x) (fun i=>s.l.length - i.1) (0,h) ⟨Nat.zero_le _,by rw [zma];exact hb,by rw [zma];exact hs.2.2.2.1⟩ ?_ ?_
 ·refine Evs ?_
  exact ⟨zjA (by rw [zl2];omega),rfl⟩
 rintro ⟨i,hk'⟩ ⟨hi,hb0,hok⟩
 refine Wk ?_
 refine zc9 rfl (fun hd=>?_) (fun hd=>?_)
 ·have hlt:=zjG hd
  have hcnt:=zl8 hlt
  have hcle:=zl9 (l:=s.l) (i:=i+1)
  have hc:Mk.cnt s.l[i]=3:=rfl
  generalize hκ:k+((cntL (s.l.take i):Nat):Int)=κ
  have hκ0:0≤κ∧κ+3≤4611686018427387904:=by omega
  have hlen:i * 3+3≤(rowL (mkd s.l k i) spare).length:=by rw [zmf,zmc,hsz];omega
  generalize hX:rowL (mkd s.l k i) spare=X0 at hb0 hlen
  refine zc5 ?_
  refine Evs ?_
  refine zc3 ?_
  refine zc8 ?_
  refine zlO [0,0,0,0,0,1] rfl ?_
  simp (maxSteps:=2000000) only [go_sem,yqa,yqb,yqc,yqd,yqe,yqf,ha,hlt,Option.map_some,za4,Option.isSome_some,yqj,Nat.zero_add,Nat.add_zero,List.toList_toArray,Hp.ins_ins]
  refine zlZ (by simp only [go_sem]) (by simp only [go_sem]) rfl rfl hb0 (.inr (hW _ hfoot)) (by simp only [List.size_toArray];omega) ?_
  simp (maxSteps:=2000000) only [go_sem,yqa,yqb,yqc,yqd,yqe,yqf,ha,hlt,Option.map_some,za4,Option.isSome_some,yqj,Nat.zero_add,Nat.add_zero,List.toList_toArray,Hp.ins_ins]
  refine zid rfl ?_
  refine Evs ?_
  rw [zjy (by omega)]
  have hsl1:(spl (i * 3) [.int .i64 (κ)] X0).length=X0.length:=zmj (by simp only [List.length_cons,List.length_nil];omega)
  refine zlO [0,0,0,0,0,1] rfl ?_
  simp (maxSteps:=2000000) only [go_sem,yqa,yqb,yqc,yqd,yqe,yqf,ha,hlt,Option.map_some,za4,Option.isSome_some,yqj,Nat.zero_add,Nat.add_zero,List.toList_toArray,Hp.ins_ins]
  refine zlZ (by simp only [go_sem]) (by simp only [go_sem]) rfl rfl Hp.ins_same (.inr (hW _ hfoot)) (by simp only [List.size_toArray,hsl1];omega) ?_
  simp (maxSteps:=2000000) only [go_sem,yqa,yqb,yqc,yqd,yqe,yqf,ha,hlt,Option.map_some,za4,Option.isSome_some,yqj,Nat.zero_add,Nat.add_zero,List.toList_toArray,Hp.ins_ins]
  rw [show spl (i * 3+1) [.int .i64 (κ+1)] (spl (i * 3) [.int .i64 (κ)] X0)=spl (i * 3) [.int .i64 (κ),.int .i64 (κ+1)] X0 from zmi (m:=[.int .i64 (κ)]) (by simp only [List.length_cons,List.length_nil];omega)]
  refine zid rfl ?_
  refine Evs ?_
  rw [zjy (by omega)]
  have hsl2:(spl (i * 3) [.int .i64 (κ),.int .i64 (κ+1)] X0).length=X0.length:=zmj (by simp only [List.length_cons,List.length_nil];omega)
  refine zlO [0,0,0,0,0,1] rfl ?_
  simp (maxSteps:=2000000) only [go_sem,yqa,yqb,yqc,yqd,yqe,yqf,ha,hlt,Option.map_some,za4,Option.isSome_some,yqj,Nat.zero_add,Nat.add_zero,List.toList_toArray,Hp.ins_ins]
  refine zlZ (by simp only [go_sem]) (by simp only [go_sem]) rfl rfl Hp.ins_same (.inr (hW _ hfoot)) (by simp only [List.size_toArray,hsl2];omega) ?_
  simp (maxSteps:=2000000) only [go_sem,yqa,yqb,yqc,yqd,yqe,yqf,ha,hlt,Option.map_some,za4,Option.isSome_some,yqj,Nat.zero_add,Nat.add_zero,List.toList_toArray,Hp.ins_ins]
  rw [show spl (i * 3+2) [.int .i64 (κ+1+1)] (spl (i * 3) [.int .i64 (κ),.int .i64 (κ+1)] X0)=spl (i * 3) [.int .i64 (κ),.int .i64 (κ+1),.int .i64 (κ+1+1)] X0 from zmi (m:=[.int .i64 (κ),.int .i64 (κ+1)]) (by simp only [List.length_cons,List.length_nil];omega)]
  refine zc4 rfl ?_
  refine Evs ?_
  rw [zjy (by omega)]
  refine Wk ?_
  refine ⟨(i+1,hk'.ins g (.cells (spl (i * 3) [.int .i64 (κ),.int .i64 (κ+1),.int .i64 (κ+1+1)] X0).toArray e (0,0))),⟨hlt,?_,fun x hx=>?_⟩,by simp only;omega,?_⟩
  ·rw [← zme hlt,← zmg (by rw [zmc];exact hlt),hX]
   simp only
   rw [Hp.ins_same]
   congr 4
   simp only [show k+((cntL (List.take i s.l):Nat):Int)=κ from hκ,Mk.put,Enc.enc,DPart.cells]
   try simp only [mkB,Int.add_assoc,Int.reduceAdd]
   try rfl
  ·simp only at hx ⊢
   rw [← zme hlt] at hx
   rcases List.mem_or_eq_of_mem_set hx with hx|rfl
   ·exact hok x hx
   ·exact (show I64 _∧I64 _∧I64 _ from by unfold I64;simp only [Mk.put];omega)
  ·refine Evs ?_
   exact ⟨zjA (by rw [hcnt,hc];omega),zjA (zjz hlt (by omega))⟩
 ·have hge:=zjH hd
  have hie:i=s.l.length:=Nat.le_antisymm hi hge
  refine Wk ?_
  have hp:mkd s.l k i=(Mk.put s k).l:=zmb hge
  rw [hp] at hb0 hok
  have hll:(Mk.put s k).l.length=s.l.length:=zl5
  have hsl:=zmk (α:=DPart) (h:=hk') (g:=g) (cap:=s.cap) (by decide) hb0 (by rw [hll];exact hs.1) hs.2.2.2.2 hok
  have hsv:(Sl.mk (some ⟨g,0,none⟩) s.cap (Mk.put s k).l:Sl DPart)=Mk.put s k:=by rw [← ha];rfl
  rw [hsv] at hsl
  refine ⟨by rw [hie,List.take_length,hcs],hsl,fun _=>⟨⟨g,_,e,ha,hb0,?_⟩,fun x hx=>trivial⟩⟩
  rw [List.size_toArray,zmf,hll,hsp]
  rfl
theorem zGL (s:Sl DPassage) (k:Int) (h:Hp) (hs:s.Ok h) (ho:Foot.own h s) (hn:(Foot.foot s).Nodup) (hk:0≤k∧k+(Mk.cnt s:Nat)≤4611686018427387904):Cw Tryz.prog 102 [s.val,.int .i64 k] h (fun b=>b ∈ Foot.foot s) fun v h'=>v=.int .i64 (k+(Mk.cnt s:Nat))∧Enc.ok h' (Mk.put s k)∧Foot.own h' (Mk.put s k):=by
 have hmax:=hs.max
 have hcs:Mk.cnt s=cntL s.l:=rfl
 by_cases hl:s.l=[]
 ·refine zlE (fun A W=>by simp) Tryz.func102 rfl rfl (by simp)  (fun b hb=>Foot.dom ho b hb) fun W0 hW=>?_
  refine Wk ?_
  refine zdd (ι:=Unit) (fun _=>⟨[(0,true,.c (.v s.val)),(1,true,.c (.v (.int .i64 k))),(5,true,.c (.v (.int .i64 0)))],[],h,0⟩) (fun _=>True) (fun _=>0) () trivial ?_ ?_
  ·exact Evc
  rintro _ _
  refine Wk ?_
  refine zc9 rfl (fun hc=>?_) (fun hc=>?_)
  ·exact absurd (of_decide_eq_true hc) (by rw [hl];simp)
  ·refine Wk ?_
   refine ⟨by rw [hcs,hl];simp [cntL],⟨(by simp [Mk.put,hl,mkL]),fun hne=>(hne (by simp [Mk.put,hl,mkL])).elim,fun i x hx=>by simp [Mk.put,hl,mkL] at hx,fun x hx=>by simp [Mk.put,hl,mkL] at hx,hs.2.2.2.2⟩,fun hne=>(hne (by simp [Mk.put,hl,mkL])).elim⟩
 obtain ⟨g,e,spare,ha,hb,hsp⟩:=zml (by decide) hs ho hl
 have hsz:Enc.size DPassage=5:=rfl
 have hfoot:g ∈ Foot.foot s:=by
  rw [show Foot.foot s=_ from Sl.foot_ne hl]
  simp [Sl.blkOf,ha]
 refine zlE (fun A W=>by simp) Tryz.func102 rfl rfl (by simp)  (fun b hb=>Foot.dom ho b hb) fun W0 hW=>?_
 refine Wk ?_
 refine zdd (ι:=Nat × Hp) (fun i=>⟨[(0,true,.c (.v s.val)),(1,true,.c (.v (.int .i64 (k+(cntL (s.l.take i.1):Nat))))),(5,true,.c (.v (.int .i64 i.1)))],[],i.2,0⟩) (fun i=>i.1≤s.l.length∧i.2 g=some (.cells (rowL (mkd s.l k i.1) spare).toArray e (0,0))∧∀ x ∈ mkd s.l k i.1,Enc.ok i.2 x) (fun i=>s.l.length - i.1) (0,h) ⟨Nat.zero_le _,by rw [zma];exact hb,by rw [zma];exact hs.2.2.2.1⟩ ?_ ?_
 ·refine Evs ?_
  exact ⟨zjA (by rw [zl2];omega),rfl⟩
 rintro ⟨i,hk'⟩ ⟨hi,hb0,hok⟩
 refine Wk ?_
 refine zc9 rfl (fun hd=>?_) (fun hd=>?_)
 ·have hlt:=zjG hd
  have hcnt:=zl8 hlt
  have hcle:=zl9 (l:=s.l) (i:=i+1)
  have hc:Mk.cnt s.l[i]=5:=rfl
  generalize hκ:k+((cntL (s.l.take i):Nat):Int)=κ
  have hκ0:0≤κ∧κ+5≤4611686018427387904:=by omega
  have hlen:i * 5+5≤(rowL (mkd s.l k i) spare).length:=by rw [zmf,zmc,hsz];omega
  generalize hX:rowL (mkd s.l k i) spare=X0 at hb0 hlen
  refine zc5 ?_
  refine Evs ?_
  refine zc3 ?_
  refine zc8 ?_
  refine zlO [0,0,0,0,0,1] rfl ?_
  simp (maxSteps:=2000000) only [go_sem,yqa,yqb,yqc,yqd,yqe,yqf,ha,hlt,Option.map_some,za4,Option.isSome_some,yqj,Nat.zero_add,Nat.add_zero,List.toList_toArray,Hp.ins_ins]
  refine zlZ (by simp only [go_sem]) (by simp only [go_sem]) rfl rfl hb0 (.inr (hW _ hfoot)) (by simp only [List.size_toArray];omega) ?_
  simp (maxSteps:=2000000) only [go_sem,yqa,yqb,yqc,yqd,yqe,yqf,ha,hlt,Option.map_some,za4,Option.isSome_some,yqj,Nat.zero_add,Nat.add_zero,List.toList_toArray,Hp.ins_ins]
  refine zid rfl ?_
  refine Evs ?_
  rw [zjy (by omega)]
  have hsl1:(spl (i * 5) [.int .i64 (κ)] X0).length=X0.length:=zmj (by simp only [List.length_cons,List.length_nil];omega)
  refine zlO [0,0,0,0,0,1] rfl ?_
  simp (maxSteps:=2000000) only [go_sem,yqa,yqb,yqc,yqd,yqe,yqf,ha,hlt,Option.map_some,za4,Option.isSome_some,yqj,Nat.zero_add,Nat.add_zero,List.toList_toArray,Hp.ins_ins]
  refine zlZ (by simp only [go_sem]) (by simp only [go_sem]) rfl rfl Hp.ins_same (.inr (hW _ hfoot)) (by simp only [List.size_toArray,hsl1];omega) ?_
  simp (maxSteps:=2000000) only [go_sem,yqa,yqb,yqc,yqd,yqe,yqf,ha,hlt,Option.map_some,za4,Option.isSome_some,yqj,Nat.zero_add,Nat.add_zero,List.toList_toArray,Hp.ins_ins]
  rw [show spl (i * 5+1) [.int .i64 (κ+1)] (spl (i * 5) [.int .i64 (κ)] X0)=spl (i * 5) [.int .i64 (κ),.int .i64 (κ+1)] X0 from zmi (m:=[.int .i64 (κ)]) (by simp only [List.length_cons,List.length_nil];omega)]
  refine zid rfl ?_
  refine Evs ?_
  rw [zjy (by omega)]
  have hsl2:(spl (i * 5) [.int .i64 (κ),.int .i64 (κ+1)] X0).length=X0.length:=zmj (by simp only [List.length_cons,List.length_nil];omega)
  refine zlO [0,0,0,0,0,0,0,1] rfl ?_
  simp (maxSteps:=2000000) only [go_sem,yqa,yqb,yqc,yqd,yqe,yqf,ha,hlt,Option.map_some,za4,Option.isSome_some,yqj,Nat.zero_add,Nat.add_zero,List.toList_toArray,Hp.ins_ins]
  refine ⟨by decide,?_⟩
  refine zlZ (by simp only [go_sem]) (by simp only [go_sem]) rfl rfl Hp.ins_same (.inr (hW _ hfoot)) (by simp only [List.size_toArray,hsl2];omega) ?_
  simp (maxSteps:=2000000) only [go_sem,yqa,yqb,yqc,yqd,yqe,yqf,ha,hlt,Option.map_some,za4,Option.isSome_some,yqj,Nat.zero_add,Nat.add_zero,List.toList_toArray,Hp.ins_ins]
  rw [show spl (i * 5+2) [.bool ((κ+1+1).tmod 3 == 0)] (spl (i * 5) [.int .i64 (κ),.int .i64 (κ+1)] X0)=spl (i * 5) [.int .i64 (κ),.int .i64 (κ+1),.bool ((κ+1+1).tmod 3 == 0)] X0 from zmi (m:=[.int .i64 (κ),.int .i64 (κ+1)]) (by simp only [List.length_cons,List.length_nil];omega)]
  refine zid rfl ?_
  refine Evs ?_
  rw [zjy (by omega)]
  have hsl3:(spl (i * 5) [.int .i64 (κ),.int .i64 (κ+1),.bool ((κ+1+1).tmod 3 == 0)] X0).length=X0.length:=zmj (by simp only [List.length_cons,List.length_nil];omega)
  refine zlO [0,0,0,0,0,1] rfl ?_
  simp (maxSteps:=2000000) only [go_sem,yqa,yqb,yqc,yqd,yqe,yqf,ha,hlt,Option.map_some,za4,Option.isSome_some,yqj,Nat.zero_add,Nat.add_zero,List.toList_toArray,Hp.ins_ins]
  refine zlZ (by simp only [go_sem]) (by simp only [go_sem]) rfl rfl Hp.ins_same (.inr (hW _ hfoot)) (by simp only [List.size_toArray,hsl3];omega) ?_
  simp (maxSteps:=2000000) only [go_sem,yqa,yqb,yqc,yqd,yqe,yqf,ha,hlt,Option.map_some,za4,Option.isSome_some,yqj,Nat.zero_add,Nat.add_zero,List.toList_toArray,Hp.ins_ins]
  rw [show spl (i * 5+3) [.int .i64 (κ+1+1+1)] (spl (i * 5) [.int .i64 (κ),.int .i64 (κ+1),.bool ((κ+1+1).tmod 3 == 0)] X0)=spl (i * 5) [.int .i64 (κ),.int .i64 (κ+1),.bool ((κ+1+1).tmod 3 == 0),.int .i64 (κ+1+1+1)] X0 from zmi (m:=[.int .i64 (κ),.int .i64 (κ+1),.bool ((κ+1+1).tmod 3 == 0)]) (by simp only [List.length_cons,List.length_nil];omega)]
  refine zid rfl ?_
  refine Evs ?_
  rw [zjy (by omega)]
  have hsl4:(spl (i * 5) [.int .i64 (κ),.int .i64 (κ+1),.bool ((κ+1+1).tmod 3 == 0),.int .i64 (κ+1+1+1)] X0).length=X0.length:=zmj (by simp only [List.length_cons,List.length_nil];omega)
  refine zlO [0,0,0,0,0,1] rfl ?_
  simp (maxSteps:=2000000) only [go_sem,yqa,yqb,yqc,yqd,yqe,yqf,ha,hlt,Option.map_some,za4,Option.isSome_some,yqj,Nat.zero_add,Nat.add_zero,List.toList_toArray,Hp.ins_ins]
  refine zlZ (by simp only [go_sem]) (by simp only [go_sem]) rfl rfl Hp.ins_same (.inr (hW _ hfoot)) (by simp only [List.size_toArray,hsl4];omega) ?_
  simp (maxSteps:=2000000) only [go_sem,yqa,yqb,yqc,yqd,yqe,yqf,ha,hlt,Option.map_some,za4,Option.isSome_some,yqj,Nat.zero_add,Nat.add_zero,List.toList_toArray,Hp.ins_ins]
  rw [show spl (i * 5+4) [.int .i64 (κ+1+1+1+1)] (spl (i * 5) [.int .i64 (κ),.int .i64 (κ+1),.bool ((κ+1+1).tmod 3 == 0),.int .i64 (κ+1+1+1)] X0)=spl (i * 5) [.int .i64 (κ),.int .i64 (κ+1),.bool ((κ+1+1).tmod 3 == 0),.int .i64 (κ+1+1+1),.int .i64 (κ+1+1+1+1)] X0 from zmi (m:=[.int .i64 (κ),.int .i64 (κ+1),.bool ((κ+1+1).tmod 3 == 0),.int .i64 (κ+1+1+1)]) (by simp only [List.length_cons,List.length_nil];omega)]
  refine zc4 rfl ?_
  refine Evs ?_
  rw [zjy (by omega)]
  refine Wk ?_
  refine ⟨(i+1,hk'.ins g (.cells (spl (i * 5) [.int .i64 (κ),.int .i64 (κ+1),.bool ((κ+1+1).tmod 3 == 0),.int .i64 (κ+1+1+1),.int .i64 (κ+1+1+1+1)] X0).toArray e (0,0))),⟨hlt,?_,fun x hx=>?_⟩,by simp only;omega,?_⟩
  ·rw [← zme hlt,← zmg (by rw [zmc];exact hlt),hX]
   simp only
   rw [Hp.ins_same]
   congr 4
   simp only [show k+((cntL (List.take i s.l):Nat):Int)=κ from hκ,Mk.put,Enc.enc,DPassage.cells]
   try simp only [mkB,Int.add_assoc,Int.reduceAdd]
   try rfl
  ·simp only at hx ⊢
   rw [← zme hlt] at hx
   rcases List.mem_or_eq_of_mem_set hx with hx|rfl
   ·exact hok x hx
   ·exact (show I64 _∧I64 _∧I64 _∧I64 _ from by unfold I64;simp only [Mk.put];omega)
  ·refine Evs ?_
   exact ⟨zjA (by rw [hcnt,hc];omega),zjA (zjz hlt (by omega))⟩
 ·have hge:=zjH hd
  have hie:i=s.l.length:=Nat.le_antisymm hi hge
  refine Wk ?_
  have hp:mkd s.l k i=(Mk.put s k).l:=zmb hge
  rw [hp] at hb0 hok
  have hll:(Mk.put s k).l.length=s.l.length:=zl5
  have hsl:=zmk (α:=DPassage) (h:=hk') (g:=g) (cap:=s.cap) (by decide) hb0 (by rw [hll];exact hs.1) hs.2.2.2.2 hok
  have hsv:(Sl.mk (some ⟨g,0,none⟩) s.cap (Mk.put s k).l:Sl DPassage)=Mk.put s k:=by rw [← ha];rfl
  rw [hsv] at hsl
  refine ⟨by rw [hie,List.take_length,hcs],hsl,fun _=>⟨⟨g,_,e,ha,hb0,?_⟩,fun x hx=>trivial⟩⟩
  rw [List.size_toArray,zmf,hll,hsp]
  rfl
theorem zGM (s:Sl DPoint) (k:Int) (h:Hp) (hs:s.Ok h) (ho:Foot.own h s) (hn:(Foot.foot s).Nodup) (hk:0≤k∧k+(Mk.cnt s:Nat)≤4611686018427387904):Cw Tryz.prog 160 [s.val,.int .i64 k] h (fun b=>b ∈ Foot.foot s) fun v h'=>v=.int .i64 (k+(Mk.cnt s:Nat))∧Enc.ok h' (Mk.put s k)∧Foot.own h' (Mk.put s k):=by
 have hmax:=hs.max
 have hcs:Mk.cnt s=cntL s.l:=rfl
 by_cases hl:s.l=[]
 ·refine zlE (fun A W=>by simp) Tryz.func160 rfl rfl (by simp)  (fun b hb=>Foot.dom ho b hb) fun W0 hW=>?_
  refine Wk ?_
  refine zdd (ι:=Unit) (fun _=>⟨[(0,true,.c (.v s.val)),(1,true,.c (.v (.int .i64 k))),(5,true,.c (.v (.int .i64 0)))],[],h,0⟩) (fun _=>True) (fun _=>0) () trivial ?_ ?_
  ·exact Evc
  rintro _ _
  refine Wk ?_
  refine zc9 rfl (fun hc=>?_) (fun hc=>?_)
  ·exact absurd (of_decide_eq_true hc) (by rw [hl];simp)
  ·refine Wk ?_
   refine ⟨by rw [hcs,hl];simp [cntL],⟨(by simp [Mk.put,hl,mkL]),fun hne=>(hne (by simp [Mk.put,hl,mkL])).elim,fun i x hx=>by simp [Mk.put,hl,mkL] at hx,fun x hx=>by simp [Mk.put,hl,mkL] at hx,hs.2.2.2.2⟩,fun hne=>(hne (by simp [Mk.put,hl,mkL])).elim⟩
 obtain ⟨g,e,spare,ha,hb,hsp⟩:=zml (by decide) hs ho hl
 have hsz:Enc.size DPoint=2:=rfl
 have hfoot:g ∈ Foot.foot s:=by
  rw [show Foot.foot s=_ from Sl.foot_ne hl]
  simp [Sl.blkOf,ha]
 refine zlE (fun A W=>by simp) Tryz.func160 rfl rfl (by simp)  (fun b hb=>Foot.dom ho b hb) fun W0 hW=>?_
 refine Wk ?_
 refine zdd (ι:=Nat × Hp) (fun i=>⟨[(0,true,.c (.v s.val)),(1,true,.c (.v (.int .i64 (k+(cntL (s.l.take i.1):Nat))))),(5,true,.c (.v (.int .i64 i.1)))],[],i.2,0⟩) (fun i=>i.1≤s.l.length∧i.2 g=some (.cells (rowL (mkd s.l k i.1) spare).toArray e (0,0))∧∀ x ∈ mkd s.l k i.1,Enc.ok i.2 x) (fun i=>s.l.length - i.1) (0,h) ⟨Nat.zero_le _,by rw [zma];exact hb,by rw [zma];exact hs.2.2.2.1⟩ ?_ ?_
 ·refine Evs ?_
  exact ⟨zjA (by rw [zl2];omega),rfl⟩
 rintro ⟨i,hk'⟩ ⟨hi,hb0,hok⟩
 refine Wk ?_
 refine zc9 rfl (fun hd=>?_) (fun hd=>?_)
 ·have hlt:=zjG hd
  have hcnt:=zl8 hlt
  have hcle:=zl9 (l:=s.l) (i:=i+1)
  have hc:Mk.cnt s.l[i]=2:=rfl
  generalize hκ:k+((cntL (s.l.take i):Nat):Int)=κ
  have hκ0:0≤κ∧κ+2≤4611686018427387904:=by omega
  have hlen:i * 2+2≤(rowL (mkd s.l k i) spare).length:=by rw [zmf,zmc,hsz];omega
  generalize hX:rowL (mkd s.l k i) spare=X0 at hb0 hlen
  refine zc5 ?_
  refine Evs ?_
  refine zc3 ?_
  refine zc8 ?_
  refine zlO [0,0,0,0,0,0,1] rfl ?_
  simp (maxSteps:=2000000) only [go_sem,yqa,yqb,yqc,yqd,yqe,yqf,ha,hlt,Option.map_some,za4,Option.isSome_some,yqj,Nat.zero_add,Nat.add_zero,List.toList_toArray,Hp.ins_ins]
  refine zhE (fun _=>zGG _ _ (by omega)) ?_
  simp (maxSteps:=2000000) only [go_sem,yqa,yqb,yqc,yqd,yqe,yqf,ha,hlt,Option.map_some,za4,Option.isSome_some,yqj,Nat.zero_add,Nat.add_zero,List.toList_toArray,Hp.ins_ins]
  refine zlZ (by simp only [go_sem]) (by simp only [go_sem]) rfl rfl hb0 (.inr (hW _ hfoot)) (by simp only [List.size_toArray];omega) ?_
  simp (maxSteps:=2000000) only [go_sem,yqa,yqb,yqc,yqd,yqe,yqf,ha,hlt,Option.map_some,za4,Option.isSome_some,yqj,Nat.zero_add,Nat.add_zero,List.toList_toArray,Hp.ins_ins]
  refine zid rfl ?_
  refine Evs ?_
  rw [zjy (by omega)]
  have hsl1:(spl (i * 2) [.string (mkT (κ))] X0).length=X0.length:=zmj (by simp only [List.length_cons,List.length_nil];omega)
  refine zlO [0,0,0,0,0,0,0,1] rfl ?_
  simp (maxSteps:=2000000) only [go_sem,yqa,yqb,yqc,yqd,yqe,yqf,ha,hlt,Option.map_some,za4,Option.isSome_some,yqj,Nat.zero_add,Nat.add_zero,List.toList_toArray,Hp.ins_ins]
  refine ⟨by decide,?_⟩
  refine zlZ (by simp only [go_sem]) (by simp only [go_sem]) rfl rfl Hp.ins_same (.inr (hW _ hfoot)) (by simp only [List.size_toArray,hsl1];omega) ?_
  simp (maxSteps:=2000000) only [go_sem,yqa,yqb,yqc,yqd,yqe,yqf,ha,hlt,Option.map_some,za4,Option.isSome_some,yqj,Nat.zero_add,Nat.add_zero,List.toList_toArray,Hp.ins_ins]
  rw [show spl (i * 2+1) [.bool ((κ+1).tmod 3 == 0)] (spl (i * 2) [.string (mkT (κ))] X0)=spl (i * 2) [.string (mkT (κ)),.bool ((κ+1).tmod 3 == 0)] X0 from zmi (m:=[.string (mkT (κ))]) (by simp only [List.length_cons,List.length_nil];omega)]
  refine zc4 rfl ?_
  refine Evs ?_
  rw [zjy (by omega)]
  refine Wk ?_
  refine ⟨(i+1,hk'.ins g (.cells (spl (i * 2) [.string (mkT (κ)),.bool ((κ+1).tmod 3 == 0)] X0).toArray e (0,0))),⟨hlt,?_,fun x hx=>?_⟩,by simp only;omega,?_⟩
  ·rw [← zme hlt,← zmg (by rw [zmc];exact hlt),hX]
   simp only
   rw [Hp.ins_same]
   congr 4
   simp only [show k+((cntL (List.take i s.l):Nat):Int)=κ from hκ,Mk.put,Enc.enc,DPoint.cells]
   try simp only [mkB,Int.add_assoc,Int.reduceAdd]
   try rfl
  ·simp only at hx ⊢
   rw [← zme hlt] at hx
   rcases List.mem_or_eq_of_mem_set hx with hx|rfl
   ·exact hok x hx
   ·exact (show zky _ from Nat.le_trans (zGF _) (by decide))
  ·refine Evs ?_
   exact ⟨zjA (by rw [hcnt,hc];omega),zjA (zjz hlt (by omega))⟩
 ·have hge:=zjH hd
  have hie:i=s.l.length:=Nat.le_antisymm hi hge
  refine Wk ?_
  have hp:mkd s.l k i=(Mk.put s k).l:=zmb hge
  rw [hp] at hb0 hok
  have hll:(Mk.put s k).l.length=s.l.length:=zl5
  have hsl:=zmk (α:=DPoint) (h:=hk') (g:=g) (cap:=s.cap) (by decide) hb0 (by rw [hll];exact hs.1) hs.2.2.2.2 hok
  have hsv:(Sl.mk (some ⟨g,0,none⟩) s.cap (Mk.put s k).l:Sl DPoint)=Mk.put s k:=by rw [← ha];rfl
  rw [hsv] at hsl
  refine ⟨by rw [hie,List.take_length,hcs],hsl,fun _=>⟨⟨g,_,e,ha,hb0,?_⟩,fun x hx=>trivial⟩⟩
  rw [List.size_toArray,zmf,hll,hsp]
  rfl
theorem zGN (s:Sl DSegment) (k:Int) (h:Hp) (hs:s.Ok h) (ho:Foot.own h s) (hn:(Foot.foot s).Nodup) (hk:0≤k∧k+(Mk.cnt s:Nat)≤4611686018427387904):Cw Tryz.prog 161 [s.val,.int .i64 k] h (fun b=>b ∈ Foot.foot s) fun v h'=>v=.int .i64 (k+(Mk.cnt s:Nat))∧Enc.ok h' (Mk.put s k)∧Foot.own h' (Mk.put s k):=by
 have hmax:=hs.max
 have hcs:Mk.cnt s=cntL s.l:=rfl
 by_cases hl:s.l=[]
 ·refine zlE (fun A W=>by simp) Tryz.func161 rfl rfl (by simp)  (fun b hb=>Foot.dom ho b hb) fun W0 hW=>?_
  refine Wk ?_
  refine zdd (ι:=Unit) (fun _=>⟨[(0,true,.c (.v s.val)),(1,true,.c (.v (.int .i64 k))),(5,true,.c (.v (.int .i64 0)))],[],h,0⟩) (fun _=>True) (fun _=>0) () trivial ?_ ?_
  ·exact Evc
  rintro _ _
  refine Wk ?_
  refine zc9 rfl (fun hc=>?_) (fun hc=>?_)
  ·exact absurd (of_decide_eq_true hc) (by rw [hl];simp)
  ·refine Wk ?_
   refine ⟨by rw [hcs,hl];simp [cntL],⟨(by simp [Mk.put,hl,mkL]),fun hne=>(hne (by simp [Mk.put,hl,mkL])).elim,fun i x hx=>by simp [Mk.put,hl,mkL] at hx,fun x hx=>by simp [Mk.put,hl,mkL] at hx,hs.2.2.2.2⟩,fun hne=>(hne (by simp [Mk.put,hl,mkL])).elim⟩
 obtain ⟨g,e,spare,ha,hb,hsp⟩:=zml (by decide) hs ho hl
 have hsz:Enc.size DSegment=5:=rfl
 have hfoot:g ∈ Foot.foot s:=by
  rw [show Foot.foot s=_ from Sl.foot_ne hl]
  simp [Sl.blkOf,ha]
 refine zlE (fun A W=>by simp) Tryz.func161 rfl rfl (by simp)  (fun b hb=>Foot.dom ho b hb) fun W0 hW=>?_
 refine Wk ?_
 refine zdd (ι:=Nat × Hp) (fun i=>⟨[(0,true,.c (.v s.val)),(1,true,.c (.v (.int .i64 (k+(cntL (s.l.take i.1):Nat))))),(5,true,.c (.v (.int .i64 i.1)))],[],i.2,0⟩) (fun i=>i.1≤s.l.length∧i.2 g=some (.cells (rowL (mkd s.l k i.1) spare).toArray e (0,0))∧∀ x ∈ mkd s.l k i.1,Enc.ok i.2 x) (fun i=>s.l.length - i.1) (0,h) ⟨Nat.zero_le _,by rw [zma];exact hb,by rw [zma];exact hs.2.2.2.1⟩ ?_ ?_
 ·refine Evs ?_
  exact ⟨zjA (by rw [zl2];omega),rfl⟩
 rintro ⟨i,hk'⟩ ⟨hi,hb0,hok⟩
 refine Wk ?_
 refine zc9 rfl (fun hd=>?_) (fun hd=>?_)
 ·have hlt:=zjG hd
  have hcnt:=zl8 hlt
  have hcle:=zl9 (l:=s.l) (i:=i+1)
  have hc:Mk.cnt s.l[i]=5:=rfl
  generalize hκ:k+((cntL (s.l.take i):Nat):Int)=κ
  have hκ0:0≤κ∧κ+5≤4611686018427387904:=by omega
  have hlen:i * 5+5≤(rowL (mkd s.l k i) spare).length:=by rw [zmf,zmc,hsz];omega
  generalize hX:rowL (mkd s.l k i) spare=X0 at hb0 hlen
  refine zc5 ?_
  refine Evs ?_
  refine zc3 ?_
  refine zc8 ?_
  refine zlO [0,0,0,0,0,1] rfl ?_
  simp (maxSteps:=2000000) only [go_sem,yqa,yqb,yqc,yqd,yqe,yqf,ha,hlt,Option.map_some,za4,Option.isSome_some,yqj,Nat.zero_add,Nat.add_zero,List.toList_toArray,Hp.ins_ins]
  refine zlZ (by simp only [go_sem]) (by simp only [go_sem]) rfl rfl hb0 (.inr (hW _ hfoot)) (by simp only [List.size_toArray];omega) ?_
  simp (maxSteps:=2000000) only [go_sem,yqa,yqb,yqc,yqd,yqe,yqf,ha,hlt,Option.map_some,za4,Option.isSome_some,yqj,Nat.zero_add,Nat.add_zero,List.toList_toArray,Hp.ins_ins]
  refine zid rfl ?_
  refine Evs ?_
  rw [zjy (by omega)]
  have hsl1:(spl (i * 5) [.int .i64 (κ)] X0).length=X0.length:=zmj (by simp only [List.length_cons,List.length_nil];omega)
  refine zlO [0,0,0,0,0,1] rfl ?_
  simp (maxSteps:=2000000) only [go_sem,yqa,yqb,yqc,yqd,yqe,yqf,ha,hlt,Option.map_some,za4,Option.isSome_some,yqj,Nat.zero_add,Nat.add_zero,List.toList_toArray,Hp.ins_ins]
  refine zlZ (by simp only [go_sem]) (by simp only [go_sem]) rfl rfl Hp.ins_same (.inr (hW _ hfoot)) (by simp only [List.size_toArray,hsl1];omega) ?_
  simp (maxSteps:=2000000) only [go_sem,yqa,yqb,yqc,yqd,yqe,yqf,ha,hlt,Option.map_some,za4,Option.isSome_some,yqj,Nat.zero_add,Nat.add_zero,List.toList_toArray,Hp.ins_ins]
  rw [show spl (i * 5+1) [.int .i64 (κ+1)] (spl (i * 5) [.int .i64 (κ)] X0)=spl (i * 5) [.int .i64 (κ),.int .i64 (κ+1)] X0 from zmi (m:=[.int .i64 (κ)]) (by simp only [List.length_cons,List.length_nil];omega)]
  refine zid rfl ?_
  refine Evs ?_
  rw [zjy (by omega)]
  have hsl2:(spl (i * 5) [.int .i64 (κ),.int .i64 (κ+1)] X0).length=X0.length:=zmj (by simp only [List.length_cons,List.length_nil];omega)
  refine zlO [0,0,0,0,0,1] rfl ?_
  simp (maxSteps:=2000000) only [go_sem,yqa,yqb,yqc,yqd,yqe,yqf,ha,hlt,Option.map_some,za4,Option.isSome_some,yqj,Nat.zero_add,Nat.add_zero,List.toList_toArray,Hp.ins_ins]
  refine zlZ (by simp only [go_sem]) (by simp only [go_sem]) rfl rfl Hp.ins_same (.inr (hW _ hfoot)) (by simp only [List.size_toArray,hsl2];omega) ?_
  simp (maxSteps:=2000000) only [go_sem,yqa,yqb,yqc,yqd,yqe,yqf,ha,hlt,Option.map_some,za4,Option.isSome_some,yqj,Nat.zero_add,Nat.add_zero,List.toList_toArray,Hp.ins_ins]
  rw [show spl (i * 5+2) [.int .i64 (κ+1+1)] (spl (i * 5) [.int .i64 (κ),.int .i64 (κ+1)] X0)=spl (i * 5) [.int .i64 (κ),.int .i64 (κ+1),.int .i64 (κ+1+1)] X0 from zmi (m:=[.int .i64 (κ),.int .i64 (κ+1)]) (by simp only [List.length_cons,List.length_nil];omega)]
  refine zid rfl ?_
  refine Evs ?_
  rw [zjy (by omega)]
  have hsl3:(spl (i * 5) [.int .i64 (κ),.int .i64 (κ+1),.int .i64 (κ+1+1)] X0).length=X0.length:=zmj (by simp only [List.length_cons,List.length_nil];omega)
  refine zlO [0,0,0,0,0,1] rfl ?_
  simp (maxSteps:=2000000) only [go_sem,yqa,yqb,yqc,yqd,yqe,yqf,ha,hlt,Option.map_some,za4,Option.isSome_some,yqj,Nat.zero_add,Nat.add_zero,List.toList_toArray,Hp.ins_ins]
  refine zlZ (by simp only [go_sem]) (by simp only [go_sem]) rfl rfl Hp.ins_same (.inr (hW _ hfoot)) (by simp only [List.size_toArray,hsl3];omega) ?_
  simp (maxSteps:=2000000) only [go_sem,yqa,yqb,yqc,yqd,yqe,yqf,ha,hlt,Option.map_some,za4,Option.isSome_some,yqj,Nat.zero_add,Nat.add_zero,List.toList_toArray,Hp.ins_ins]
  rw [show spl (i * 5+3) [.int .i64 (κ+1+1+1)] (spl (i * 5) [.int .i64 (κ),.int .i64 (κ+1),.int .i64 (κ+1+1)] X0)=spl (i * 5) [.int .i64 (κ),.int .i64 (κ+1),.int .i64 (κ+1+1),.int .i64 (κ+1+1+1)] X0 from zmi (m:=[.int .i64 (κ),.int .i64 (κ+1),.int .i64 (κ+1+1)]) (by simp only [List.length_cons,List.length_nil];omega)]
  refine zid rfl ?_
  refine Evs ?_
  rw [zjy (by omega)]
  have hsl4:(spl (i * 5) [.int .i64 (κ),.int .i64 (κ+1),.int .i64 (κ+1+1),.int .i64 (κ+1+1+1)] X0).length=X0.length:=zmj (by simp only [List.length_cons,List.length_nil];omega)
  refine zlO [0,0,0,0,0,0,0,1] rfl ?_
  simp (maxSteps:=2000000) only [go_sem,yqa,yqb,yqc,yqd,yqe,yqf,ha,hlt,Option.map_some,za4,Option.isSome_some,yqj,Nat.zero_add,Nat.add_zero,List.toList_toArray,Hp.ins_ins]
  refine ⟨by decide,?_⟩
  refine zlZ (by simp only [go_sem]) (by simp only [go_sem]) rfl rfl Hp.ins_same (.inr (hW _ hfoot)) (by simp only [List.size_toArray,hsl4];omega) ?_
  simp (maxSteps:=2000000) only [go_sem,yqa,yqb,yqc,yqd,yqe,yqf,ha,hlt,Option.map_some,za4,Option.isSome_some,yqj,Nat.zero_add,Nat.add_zero,List.toList_toArray,Hp.ins_ins]
  rw [show spl (i * 5+4) [.bool ((κ+1+1+1+1).tmod 3 == 0)] (spl (i * 5) [.int .i64 (κ),.int .i64 (κ+1),.int .i64 (κ+1+1),.int .i64 (κ+1+1+1)] X0)=spl (i * 5) [.int .i64 (κ),.int .i64 (κ+1),.int .i64 (κ+1+1),.int .i64 (κ+1+1+1),.bool ((κ+1+1+1+1).tmod 3 == 0)] X0 from zmi (m:=[.int .i64 (κ),.int .i64 (κ+1),.int .i64 (κ+1+1),.int .i64 (κ+1+1+1)]) (by simp only [List.length_cons,List.length_nil];omega)]
  refine zc4 rfl ?_
  refine Evs ?_
  rw [zjy (by omega)]
  refine Wk ?_
  refine ⟨(i+1,hk'.ins g (.cells (spl (i * 5) [.int .i64 (κ),.int .i64 (κ+1),.int .i64 (κ+1+1),.int .i64 (κ+1+1+1),.bool ((κ+1+1+1+1).tmod 3 == 0)] X0).toArray e (0,0))),⟨hlt,?_,fun x hx=>?_⟩,by simp only;omega,?_⟩
  ·rw [← zme hlt,← zmg (by rw [zmc];exact hlt),hX]
   simp only
   rw [Hp.ins_same]
   congr 4
   simp only [show k+((cntL (List.take i s.l):Nat):Int)=κ from hκ,Mk.put,Enc.enc,DSegment.cells]
   try simp only [mkB,Int.add_assoc,Int.reduceAdd]
   try rfl
  ·simp only at hx ⊢
   rw [← zme hlt] at hx
   rcases List.mem_or_eq_of_mem_set hx with hx|rfl
   ·exact hok x hx
   ·exact (show I64 _∧I64 _∧I64 _∧I64 _ from by unfold I64;simp only [Mk.put];omega)
  ·refine Evs ?_
   exact ⟨zjA (by rw [hcnt,hc];omega),zjA (zjz hlt (by omega))⟩
 ·have hge:=zjH hd
  have hie:i=s.l.length:=Nat.le_antisymm hi hge
  refine Wk ?_
  have hp:mkd s.l k i=(Mk.put s k).l:=zmb hge
  rw [hp] at hb0 hok
  have hll:(Mk.put s k).l.length=s.l.length:=zl5
  have hsl:=zmk (α:=DSegment) (h:=hk') (g:=g) (cap:=s.cap) (by decide) hb0 (by rw [hll];exact hs.1) hs.2.2.2.2 hok
  have hsv:(Sl.mk (some ⟨g,0,none⟩) s.cap (Mk.put s k).l:Sl DSegment)=Mk.put s k:=by rw [← ha];rfl
  rw [hsv] at hsl
  refine ⟨by rw [hie,List.take_length,hcs],hsl,fun _=>⟨⟨g,_,e,ha,hb0,?_⟩,fun x hx=>trivial⟩⟩
  rw [List.size_toArray,zmf,hll,hsp]
  rfl
theorem zGO (s:Sl DShip) (k:Int) (h:Hp) (hs:s.Ok h) (ho:Foot.own h s) (hn:(Foot.foot s).Nodup) (hk:0≤k∧k+(Mk.cnt s:Nat)≤4611686018427387904):Cw Tryz.prog 85 [s.val,.int .i64 k] h (fun b=>b ∈ Foot.foot s) fun v h'=>v=.int .i64 (k+(Mk.cnt s:Nat))∧Enc.ok h' (Mk.put s k)∧Foot.own h' (Mk.put s k):=by
 have hmax:=hs.max
 have hcs:Mk.cnt s=cntL s.l:=rfl
 by_cases hl:s.l=[]
 ·refine zlE (fun A W=>by simp) Tryz.func85 rfl rfl (by simp)  (fun b hb=>Foot.dom ho b hb) fun W0 hW=>?_
  refine Wk ?_
  refine zdd (ι:=Unit) (fun _=>⟨[(0,true,.c (.v s.val)),(1,true,.c (.v (.int .i64 k))),(5,true,.c (.v (.int .i64 0)))],[],h,0⟩) (fun _=>True) (fun _=>0) () trivial ?_ ?_
  ·exact Evc
  rintro _ _
  refine Wk ?_
  refine zc9 rfl (fun hc=>?_) (fun hc=>?_)
  ·exact absurd (of_decide_eq_true hc) (by rw [hl];simp)
  ·refine Wk ?_
   refine ⟨by rw [hcs,hl];simp [cntL],⟨(by simp [Mk.put,hl,mkL]),fun hne=>(hne (by simp [Mk.put,hl,mkL])).elim,fun i x hx=>by simp [Mk.put,hl,mkL] at hx,fun x hx=>by simp [Mk.put,hl,mkL] at hx,hs.2.2.2.2⟩,fun hne=>(hne (by simp [Mk.put,hl,mkL])).elim⟩
 obtain ⟨g,e,spare,ha,hb,hsp⟩:=zml (by decide) hs ho hl
 have hsz:Enc.size DShip=6:=rfl
 have hfoot:g ∈ Foot.foot s:=by
  rw [show Foot.foot s=_ from Sl.foot_ne hl]
  simp [Sl.blkOf,ha]
 refine zlE (fun A W=>by simp) Tryz.func85 rfl rfl (by simp)  (fun b hb=>Foot.dom ho b hb) fun W0 hW=>?_
 refine Wk ?_
 refine zdd (ι:=Nat × Hp) (fun i=>⟨[(0,true,.c (.v s.val)),(1,true,.c (.v (.int .i64 (k+(cntL (s.l.take i.1):Nat))))),(5,true,.c (.v (.int .i64 i.1)))],[],i.2,0⟩) (fun i=>i.1≤s.l.length∧i.2 g=some (.cells (rowL (mkd s.l k i.1) spare).toArray e (0,0))∧∀ x ∈ mkd s.l k i.1,Enc.ok i.2 x) (fun i=>s.l.length - i.1) (0,h) ⟨Nat.zero_le _,by rw [zma];exact hb,by rw [zma];exact hs.2.2.2.1⟩ ?_ ?_
 ·refine Evs ?_
  exact ⟨zjA (by rw [zl2];omega),rfl⟩
 rintro ⟨i,hk'⟩ ⟨hi,hb0,hok⟩
 refine Wk ?_
 refine zc9 rfl (fun hd=>?_) (fun hd=>?_)
 ·have hlt:=zjG hd
  have hcnt:=zl8 hlt
  have hcle:=zl9 (l:=s.l) (i:=i+1)
  have hc:Mk.cnt s.l[i]=6:=rfl
  generalize hκ:k+((cntL (s.l.take i):Nat):Int)=κ
  have hκ0:0≤κ∧κ+6≤4611686018427387904:=by omega
  have hlen:i * 6+6≤(rowL (mkd s.l k i) spare).length:=by rw [zmf,zmc,hsz];omega
  generalize hX:rowL (mkd s.l k i) spare=X0 at hb0 hlen
  refine zc5 ?_
  refine Evs ?_
  refine zc3 ?_
  refine zc8 ?_
  refine zlO [0,0,0,0,0,0,1] rfl ?_
  simp (maxSteps:=2000000) only [go_sem,yqa,yqb,yqc,yqd,yqe,yqf,ha,hlt,Option.map_some,za4,Option.isSome_some,yqj,Nat.zero_add,Nat.add_zero,List.toList_toArray,Hp.ins_ins]
  refine zhE (fun _=>zGG _ _ (by omega)) ?_
  simp (maxSteps:=2000000) only [go_sem,yqa,yqb,yqc,yqd,yqe,yqf,ha,hlt,Option.map_some,za4,Option.isSome_some,yqj,Nat.zero_add,Nat.add_zero,List.toList_toArray,Hp.ins_ins]
  refine zlZ (by simp only [go_sem]) (by simp only [go_sem]) rfl rfl hb0 (.inr (hW _ hfoot)) (by simp only [List.size_toArray];omega) ?_
  simp (maxSteps:=2000000) only [go_sem,yqa,yqb,yqc,yqd,yqe,yqf,ha,hlt,Option.map_some,za4,Option.isSome_some,yqj,Nat.zero_add,Nat.add_zero,List.toList_toArray,Hp.ins_ins]
  refine zid rfl ?_
  refine Evs ?_
  rw [zjy (by omega)]
  have hsl1:(spl (i * 6) [.string (mkT (κ))] X0).length=X0.length:=zmj (by simp only [List.length_cons,List.length_nil];omega)
  refine zlO [0,0,0,0,0,1] rfl ?_
  simp (maxSteps:=2000000) only [go_sem,yqa,yqb,yqc,yqd,yqe,yqf,ha,hlt,Option.map_some,za4,Option.isSome_some,yqj,Nat.zero_add,Nat.add_zero,List.toList_toArray,Hp.ins_ins]
  refine zlZ (by simp only [go_sem]) (by simp only [go_sem]) rfl rfl Hp.ins_same (.inr (hW _ hfoot)) (by simp only [List.size_toArray,hsl1];omega) ?_
  simp (maxSteps:=2000000) only [go_sem,yqa,yqb,yqc,yqd,yqe,yqf,ha,hlt,Option.map_some,za4,Option.isSome_some,yqj,Nat.zero_add,Nat.add_zero,List.toList_toArray,Hp.ins_ins]
  rw [show spl (i * 6+1) [.int .i64 (κ+1)] (spl (i * 6) [.string (mkT (κ))] X0)=spl (i * 6) [.string (mkT (κ)),.int .i64 (κ+1)] X0 from zmi (m:=[.string (mkT (κ))]) (by simp only [List.length_cons,List.length_nil];omega)]
  refine zid rfl ?_
  refine Evs ?_
  rw [zjy (by omega)]
  have hsl2:(spl (i * 6) [.string (mkT (κ)),.int .i64 (κ+1)] X0).length=X0.length:=zmj (by simp only [List.length_cons,List.length_nil];omega)
  refine zlO [0,0,0,0,0,1] rfl ?_
  simp (maxSteps:=2000000) only [go_sem,yqa,yqb,yqc,yqd,yqe,yqf,ha,hlt,Option.map_some,za4,Option.isSome_some,yqj,Nat.zero_add,Nat.add_zero,List.toList_toArray,Hp.ins_ins]
  refine zlZ (by simp only [go_sem]) (by simp only [go_sem]) rfl rfl Hp.ins_same (.inr (hW _ hfoot)) (by simp only [List.size_toArray,hsl2];omega) ?_
  simp (maxSteps:=2000000) only [go_sem,yqa,yqb,yqc,yqd,yqe,yqf,ha,hlt,Option.map_some,za4,Option.isSome_some,yqj,Nat.zero_add,Nat.add_zero,List.toList_toArray,Hp.ins_ins]
  rw [show spl (i * 6+2) [.int .i64 (κ+1+1)] (spl (i * 6) [.string (mkT (κ)),.int .i64 (κ+1)] X0)=spl (i * 6) [.string (mkT (κ)),.int .i64 (κ+1),.int .i64 (κ+1+1)] X0 from zmi (m:=[.string (mkT (κ)),.int .i64 (κ+1)]) (by simp only [List.length_cons,List.length_nil];omega)]
  refine zid rfl ?_
  refine Evs ?_
  rw [zjy (by omega)]
  have hsl3:(spl (i * 6) [.string (mkT (κ)),.int .i64 (κ+1),.int .i64 (κ+1+1)] X0).length=X0.length:=zmj (by simp only [List.length_cons,List.length_nil];omega)
  refine zlO [0,0,0,0,0,1] rfl ?_
  simp (maxSteps:=2000000) only [go_sem,yqa,yqb,yqc,yqd,yqe,yqf,ha,hlt,Option.map_some,za4,Option.isSome_some,yqj,Nat.zero_add,Nat.add_zero,List.toList_toArray,Hp.ins_ins]
  refine zlZ (by simp only [go_sem]) (by simp only [go_sem]) rfl rfl Hp.ins_same (.inr (hW _ hfoot)) (by simp only [List.size_toArray,hsl3];omega) ?_
  simp (maxSteps:=2000000) only [go_sem,yqa,yqb,yqc,yqd,yqe,yqf,ha,hlt,Option.map_some,za4,Option.isSome_some,yqj,Nat.zero_add,Nat.add_zero,List.toList_toArray,Hp.ins_ins]
  rw [show spl (i * 6+3) [.int .i64 (κ+1+1+1)] (spl (i * 6) [.string (mkT (κ)),.int .i64 (κ+1),.int .i64 (κ+1+1)] X0)=spl (i * 6) [.string (mkT (κ)),.int .i64 (κ+1),.int .i64 (κ+1+1),.int .i64 (κ+1+1+1)] X0 from zmi (m:=[.string (mkT (κ)),.int .i64 (κ+1),.int .i64 (κ+1+1)]) (by simp only [List.length_cons,List.length_nil];omega)]
  refine zid rfl ?_
  refine Evs ?_
  rw [zjy (by omega)]
  have hsl4:(spl (i * 6) [.string (mkT (κ)),.int .i64 (κ+1),.int .i64 (κ+1+1),.int .i64 (κ+1+1+1)] X0).length=X0.length:=zmj (by simp only [List.length_cons,List.length_nil];omega)
  refine zlO [0,0,0,0,0,1] rfl ?_
  simp (maxSteps:=2000000) only [go_sem,yqa,yqb,yqc,yqd,yqe,yqf,ha,hlt,Option.map_some,za4,Option.isSome_some,yqj,Nat.zero_add,Nat.add_zero,List.toList_toArray,Hp.ins_ins]
  refine zlZ (by simp only [go_sem]) (by simp only [go_sem]) rfl rfl Hp.ins_same (.inr (hW _ hfoot)) (by simp only [List.size_toArray,hsl4];omega) ?_
  simp (maxSteps:=2000000) only [go_sem,yqa,yqb,yqc,yqd,yqe,yqf,ha,hlt,Option.map_some,za4,Option.isSome_some,yqj,Nat.zero_add,Nat.add_zero,List.toList_toArray,Hp.ins_ins]
  rw [show spl (i * 6+4) [.int .i64 (κ+1+1+1+1)] (spl (i * 6) [.string (mkT (κ)),.int .i64 (κ+1),.int .i64 (κ+1+1),.int .i64 (κ+1+1+1)] X0)=spl (i * 6) [.string (mkT (κ)),.int .i64 (κ+1),.int .i64 (κ+1+1),.int .i64 (κ+1+1+1),.int .i64 (κ+1+1+1+1)] X0 from zmi (m:=[.string (mkT (κ)),.int .i64 (κ+1),.int .i64 (κ+1+1),.int .i64 (κ+1+1+1)]) (by simp only [List.length_cons,List.length_nil];omega)]
  refine zid rfl ?_
  refine Evs ?_
  rw [zjy (by omega)]
  have hsl5:(spl (i * 6) [.string (mkT (κ)),.int .i64 (κ+1),.int .i64 (κ+1+1),.int .i64 (κ+1+1+1),.int .i64 (κ+1+1+1+1)] X0).length=X0.length:=zmj (by simp only [List.length_cons,List.length_nil];omega)
  refine zlO [0,0,0,0,0,0,0,1] rfl ?_
  simp (maxSteps:=2000000) only [go_sem,yqa,yqb,yqc,yqd,yqe,yqf,ha,hlt,Option.map_some,za4,Option.isSome_some,yqj,Nat.zero_add,Nat.add_zero,List.toList_toArray,Hp.ins_ins]
  refine ⟨by decide,?_⟩
  refine zlZ (by simp only [go_sem]) (by simp only [go_sem]) rfl rfl Hp.ins_same (.inr (hW _ hfoot)) (by simp only [List.size_toArray,hsl5];omega) ?_
  simp (maxSteps:=2000000) only [go_sem,yqa,yqb,yqc,yqd,yqe,yqf,ha,hlt,Option.map_some,za4,Option.isSome_some,yqj,Nat.zero_add,Nat.add_zero,List.toList_toArray,Hp.ins_ins]
  rw [show spl (i * 6+5) [.bool ((κ+1+1+1+1+1).tmod 3 == 0)] (spl (i * 6) [.string (mkT (κ)),.int .i64 (κ+1),.int .i64 (κ+1+1),.int .i64 (κ+1+1+1),.int .i64 (κ+1+1+1+1)] X0)=spl (i * 6) [.string (mkT (κ)),.int .i64 (κ+1),.int .i64 (κ+1+1),.int .i64 (κ+1+1+1),.int .i64 (κ+1+1+1+1),.bool ((κ+1+1+1+1+1).tmod 3 == 0)] X0 from zmi (m:=[.string (mkT (κ)),.int .i64 (κ+1),.int .i64 (κ+1+1),.int .i64 (κ+1+1+1),.int .i64 (κ+1+1+1+1)]) (by simp only [List.length_cons,List.length_nil];omega)]
  refine zc4 rfl ?_
  refine Evs ?_
  rw [zjy (by omega)]
  refine Wk ?_
  refine ⟨(i+1,hk'.ins g (.cells (spl (i * 6) [.string (mkT (κ)),.int .i64 (κ+1),.int .i64 (κ+1+1),.int .i64 (κ+1+1+1),.int .i64 (κ+1+1+1+1),.bool ((κ+1+1+1+1+1).tmod 3 == 0)] X0).toArray e (0,0))),⟨hlt,?_,fun x hx=>?_⟩,by simp only;omega,?_⟩
  ·rw [← zme hlt,← zmg (by rw [zmc];exact hlt),hX]
   simp only
   rw [Hp.ins_same]
   congr 4
   simp only [show k+((cntL (List.take i s.l):Nat):Int)=κ from hκ,Mk.put,Enc.enc,DShip.cells]
   try simp only [mkB,Int.add_assoc,Int.reduceAdd]
   try rfl
  ·simp only at hx ⊢
   rw [← zme hlt] at hx
   rcases List.mem_or_eq_of_mem_set hx with hx|rfl
   ·exact hok x hx
   ·exact (show zky _∧I64 _∧I64 _∧I64 _∧I64 _ from ⟨Nat.le_trans (zGF _) (by decide),(by unfold I64;simp only [Mk.put];omega),(by unfold I64;simp only [Mk.put];omega),(by unfold I64;simp only [Mk.put];omega),(by unfold I64;simp only [Mk.put];omega)⟩)
  ·refine Evs ?_
   exact ⟨zjA (by rw [hcnt,hc];omega),zjA (zjz hlt (by omega))⟩
 ·have hge:=zjH hd
  have hie:i=s.l.length:=Nat.le_antisymm hi hge
  refine Wk ?_
  have hp:mkd s.l k i=(Mk.put s k).l:=zmb hge
  rw [hp] at hb0 hok
  have hll:(Mk.put s k).l.length=s.l.length:=zl5
  have hsl:=zmk (α:=DShip) (h:=hk') (g:=g) (cap:=s.cap) (by decide) hb0 (by rw [hll];exact hs.1) hs.2.2.2.2 hok
  have hsv:(Sl.mk (some ⟨g,0,none⟩) s.cap (Mk.put s k).l:Sl DShip)=Mk.put s k:=by rw [← ha];rfl
  rw [hsv] at hsl
  refine ⟨by rw [hie,List.take_length,hcs],hsl,fun _=>⟨⟨g,_,e,ha,hb0,?_⟩,fun x hx=>trivial⟩⟩
  rw [List.size_toArray,zmf,hll,hsp]
  rfl
theorem zGP (s:Sl DSurge) (k:Int) (h:Hp) (hs:s.Ok h) (ho:Foot.own h s) (hn:(Foot.foot s).Nodup) (hk:0≤k∧k+(Mk.cnt s:Nat)≤4611686018427387904):Cw Tryz.prog 159 [s.val,.int .i64 k] h (fun b=>b ∈ Foot.foot s) fun v h'=>v=.int .i64 (k+(Mk.cnt s:Nat))∧Enc.ok h' (Mk.put s k)∧Foot.own h' (Mk.put s k):=by
 have hmax:=hs.max
 have hcs:Mk.cnt s=cntL s.l:=rfl
 by_cases hl:s.l=[]
 ·refine zlE (fun A W=>by simp) Tryz.func159 rfl rfl (by simp)  (fun b hb=>Foot.dom ho b hb) fun W0 hW=>?_
  refine Wk ?_
  refine zdd (ι:=Unit) (fun _=>⟨[(0,true,.c (.v s.val)),(1,true,.c (.v (.int .i64 k))),(5,true,.c (.v (.int .i64 0)))],[],h,0⟩) (fun _=>True) (fun _=>0) () trivial ?_ ?_
  ·exact Evc
  rintro _ _
  refine Wk ?_
  refine zc9 rfl (fun hc=>?_) (fun hc=>?_)
  ·exact absurd (of_decide_eq_true hc) (by rw [hl];simp)
  ·refine Wk ?_
   refine ⟨by rw [hcs,hl];simp [cntL],⟨(by simp [Mk.put,hl,mkL]),fun hne=>(hne (by simp [Mk.put,hl,mkL])).elim,fun i x hx=>by simp [Mk.put,hl,mkL] at hx,fun x hx=>by simp [Mk.put,hl,mkL] at hx,hs.2.2.2.2⟩,fun hne=>(hne (by simp [Mk.put,hl,mkL])).elim⟩
 obtain ⟨g,e,spare,ha,hb,hsp⟩:=zml (by decide) hs ho hl
 have hsz:Enc.size DSurge=3:=rfl
 have hfoot:g ∈ Foot.foot s:=by
  rw [show Foot.foot s=_ from Sl.foot_ne hl]
  simp [Sl.blkOf,ha]
 refine zlE (fun A W=>by simp) Tryz.func159 rfl rfl (by simp)  (fun b hb=>Foot.dom ho b hb) fun W0 hW=>?_
 refine Wk ?_
 refine zdd (ι:=Nat × Hp) (fun i=>⟨[(0,true,.c (.v s.val)),(1,true,.c (.v (.int .i64 (k+(cntL (s.l.take i.1):Nat))))),(5,true,.c (.v (.int .i64 i.1)))],[],i.2,0⟩) (fun i=>i.1≤s.l.length∧i.2 g=some (.cells (rowL (mkd s.l k i.1) spare).toArray e (0,0))∧∀ x ∈ mkd s.l k i.1,Enc.ok i.2 x) (fun i=>s.l.length - i.1) (0,h) ⟨Nat.zero_le _,by rw [zma];exact hb,by rw [zma];exact hs.2.2.2.1⟩ ?_ ?_
 ·refine Evs ?_
  exact ⟨zjA (by rw [zl2];omega),rfl⟩
 rintro ⟨i,hk'⟩ ⟨hi,hb0,hok⟩
 refine Wk ?_
 refine zc9 rfl (fun hd=>?_) (fun hd=>?_)
 ·have hlt:=zjG hd
  have hcnt:=zl8 hlt
  have hcle:=zl9 (l:=s.l) (i:=i+1)
  have hc:Mk.cnt s.l[i]=3:=rfl
  generalize hκ:k+((cntL (s.l.take i):Nat):Int)=κ
  have hκ0:0≤κ∧κ+3≤4611686018427387904:=by omega
  have hlen:i * 3+3≤(rowL (mkd s.l k i) spare).length:=by rw [zmf,zmc,hsz];omega
  generalize hX:rowL (mkd s.l k i) spare=X0 at hb0 hlen
  refine zc5 ?_
  refine Evs ?_
  refine zc3 ?_
  refine zc8 ?_
  refine zlO [0,0,0,0,0,1] rfl ?_
  simp (maxSteps:=2000000) only [go_sem,yqa,yqb,yqc,yqd,yqe,yqf,ha,hlt,Option.map_some,za4,Option.isSome_some,yqj,Nat.zero_add,Nat.add_zero,List.toList_toArray,Hp.ins_ins]
  refine zlZ (by simp only [go_sem]) (by simp only [go_sem]) rfl rfl hb0 (.inr (hW _ hfoot)) (by simp only [List.size_toArray];omega) ?_
  simp (maxSteps:=2000000) only [go_sem,yqa,yqb,yqc,yqd,yqe,yqf,ha,hlt,Option.map_some,za4,Option.isSome_some,yqj,Nat.zero_add,Nat.add_zero,List.toList_toArray,Hp.ins_ins]
  refine zid rfl ?_
  refine Evs ?_
  rw [zjy (by omega)]
  have hsl1:(spl (i * 3) [.int .i64 (κ)] X0).length=X0.length:=zmj (by simp only [List.length_cons,List.length_nil];omega)
  refine zlO [0,0,0,0,0,1] rfl ?_
  simp (maxSteps:=2000000) only [go_sem,yqa,yqb,yqc,yqd,yqe,yqf,ha,hlt,Option.map_some,za4,Option.isSome_some,yqj,Nat.zero_add,Nat.add_zero,List.toList_toArray,Hp.ins_ins]
  refine zlZ (by simp only [go_sem]) (by simp only [go_sem]) rfl rfl Hp.ins_same (.inr (hW _ hfoot)) (by simp only [List.size_toArray,hsl1];omega) ?_
  simp (maxSteps:=2000000) only [go_sem,yqa,yqb,yqc,yqd,yqe,yqf,ha,hlt,Option.map_some,za4,Option.isSome_some,yqj,Nat.zero_add,Nat.add_zero,List.toList_toArray,Hp.ins_ins]
  rw [show spl (i * 3+1) [.int .i64 (κ+1)] (spl (i * 3) [.int .i64 (κ)] X0)=spl (i * 3) [.int .i64 (κ),.int .i64 (κ+1)] X0 from zmi (m:=[.int .i64 (κ)]) (by simp only [List.length_cons,List.length_nil];omega)]
  refine zid rfl ?_
  refine Evs ?_
  rw [zjy (by omega)]
  have hsl2:(spl (i * 3) [.int .i64 (κ),.int .i64 (κ+1)] X0).length=X0.length:=zmj (by simp only [List.length_cons,List.length_nil];omega)
  refine zlO [0,0,0,0,0,1] rfl ?_
  simp (maxSteps:=2000000) only [go_sem,yqa,yqb,yqc,yqd,yqe,yqf,ha,hlt,Option.map_some,za4,Option.isSome_some,yqj,Nat.zero_add,Nat.add_zero,List.toList_toArray,Hp.ins_ins]
  refine zlZ (by simp only [go_sem]) (by simp only [go_sem]) rfl rfl Hp.ins_same (.inr (hW _ hfoot)) (by simp only [List.size_toArray,hsl2];omega) ?_
  simp (maxSteps:=2000000) only [go_sem,yqa,yqb,yqc,yqd,yqe,yqf,ha,hlt,Option.map_some,za4,Option.isSome_some,yqj,Nat.zero_add,Nat.add_zero,List.toList_toArray,Hp.ins_ins]
  rw [show spl (i * 3+2) [.int .i64 (κ+1+1)] (spl (i * 3) [.int .i64 (κ),.int .i64 (κ+1)] X0)=spl (i * 3) [.int .i64 (κ),.int .i64 (κ+1),.int .i64 (κ+1+1)] X0 from zmi (m:=[.int .i64 (κ),.int .i64 (κ+1)]) (by simp only [List.length_cons,List.length_nil];omega)]
  refine zc4 rfl ?_
  refine Evs ?_
  rw [zjy (by omega)]
  refine Wk ?_
  refine ⟨(i+1,hk'.ins g (.cells (spl (i * 3) [.int .i64 (κ),.int .i64 (κ+1),.int .i64 (κ+1+1)] X0).toArray e (0,0))),⟨hlt,?_,fun x hx=>?_⟩,by simp only;omega,?_⟩
  ·rw [← zme hlt,← zmg (by rw [zmc];exact hlt),hX]
   simp only
   rw [Hp.ins_same]
   congr 4
   simp only [show k+((cntL (List.take i s.l):Nat):Int)=κ from hκ,Mk.put,Enc.enc,DSurge.cells]
   try simp only [mkB,Int.add_assoc,Int.reduceAdd]
   try rfl
  ·simp only at hx ⊢
   rw [← zme hlt] at hx
   rcases List.mem_or_eq_of_mem_set hx with hx|rfl
   ·exact hok x hx
   ·exact (show I64 _∧I64 _∧I64 _ from by unfold I64;simp only [Mk.put];omega)
  ·refine Evs ?_
   exact ⟨zjA (by rw [hcnt,hc];omega),zjA (zjz hlt (by omega))⟩
 ·have hge:=zjH hd
  have hie:i=s.l.length:=Nat.le_antisymm hi hge
  refine Wk ?_
  have hp:mkd s.l k i=(Mk.put s k).l:=zmb hge
  rw [hp] at hb0 hok
  have hll:(Mk.put s k).l.length=s.l.length:=zl5
  have hsl:=zmk (α:=DSurge) (h:=hk') (g:=g) (cap:=s.cap) (by decide) hb0 (by rw [hll];exact hs.1) hs.2.2.2.2 hok
  have hsv:(Sl.mk (some ⟨g,0,none⟩) s.cap (Mk.put s k).l:Sl DSurge)=Mk.put s k:=by rw [← ha];rfl
  rw [hsv] at hsl
  refine ⟨by rw [hie,List.take_length,hcs],hsl,fun _=>⟨⟨g,_,e,ha,hb0,?_⟩,fun x hx=>trivial⟩⟩
  rw [List.size_toArray,zmf,hll,hsp]
  rfl
theorem zGQ (c:DChart) (k:Int) (h:Hp) (hc:Enc.ok h c) (ho:Foot.own h c) (hn:(Foot.foot c).Nodup) (hk:0≤k∧k+(zmE c:Nat)≤4611686018427387904):Cw Tryz.prog 84 [c.v,.int .i64 k] h (fun b=>b ∈ Foot.foot c) fun v h'=>v=.int .i64 (k+(zmE c:Nat))∧Enc.ok h' (zmD c k)∧Foot.own h' (zmD c k):=by
 have hdom:=fun b hb=>Foot.dom (x:=c) ho b hb
 have hcv:zmE c=Mk.cnt c.points+Mk.cnt c.segments:=rfl
 have hft:Foot.foot c=Foot.foot c.points ++ Foot.foot c.segments:=rfl
 rw [hft] at hn
 rw [zmu] at ho
 have hmem:∀ b,b ∈ Foot.foot c ↔ b ∈ Foot.foot c.points∨b ∈ Foot.foot c.segments:=fun b=>by rw [hft];simp only [List.mem_append,or_assoc]
 simp only [List.nodup_append,List.mem_append] at hn
 have ok0_0:Enc.ok h c.points:=hc.1
 have ow0_0:Foot.own h c.points:=ho.1
 have nd0:(Foot.foot c.points).Nodup:=hn.1
 have ok1_0:Enc.ok h c.segments:=hc.2
 have ow1_0:Foot.own h c.segments:=ho.2
 have nd1:(Foot.foot c.segments).Nodup:=hn.2.1
 have ds1_0:∀ b ∈ Foot.foot c.segments,¬ (b ∈ Foot.foot c.points):=fun b hi hq=>hn.2.2 b hq b hi rfl
 refine zlE (fun A W=>by simp) Tryz.func84 rfl rfl (by simp)  hdom fun W0 hW=>?_
 refine zid rfl ?_
 refine Evs ?_
 refine zlO [0,0,0,1] rfl ?_
 refine Evs ?_
 refine zlF (x:=⟨Tryz.prog,W0,h,_⟩) (zGM c.points (k) _ ok0_0 ow0_0 nd0 (by omega)) rfl (fun b hb=>⟨Foot.dom (x:=c.points) ow0_0 b hb,.inr (hW b ((hmem b).2 (Or.inl hb)))⟩) ?_
 rintro v h0 kp0 ⟨rfl,pk0,pw0⟩
 obtain ⟨ok1_1,ow1_1⟩:=ok_keep (x:=c.segments) ok1_0 ow1_0 ds1_0 kp0
 refine Evs ?_
 refine zlO [0,0,0,1] rfl ?_
 refine Evs ?_
 refine zlF (x:=⟨Tryz.prog,W0,h,_⟩) (zGN c.segments (k+(Mk.cnt c.points:Nat)) _ ok1_1 ow1_1 nd1 (by omega)) rfl (fun b hb=>⟨Foot.dom (x:=c.segments) ow1_1 b hb,.inr (hW b ((hmem b).2 (Or.inr hb)))⟩) ?_
 rintro v h1 kp1 ⟨rfl,pk1,pw1⟩
 have kk0_2:=ok_keep pk0 pw0 (fun b hb hi=>ds1_0 b hi (by rw [MkOk.foot] at hb;exact hb)) kp1
 obtain ⟨pk0_2,pw0_2⟩:=kk0_2
 refine Evs ?_
 repeat' first|refine zid rfl ?_|refine zc4 rfl ?_|refine zc7 ?_|refine zc8 ?_|refine zc5 ?_|refine zc6 ?_|(simp (maxSteps:=2000000) only [go_sem,yqa,yqb,yqc,yqd,yqe,yqf];try rfl)|refine zc3 ?_
 exact ⟨by rw [hcv];congr 1;omega,⟨pk0_2,pk1⟩,⟨pw0_2,pw1⟩⟩
theorem zH3 (c:DOption) (k:Int) (h:Hp) (hc:Enc.ok h c) (ho:Foot.own h c) (hn:(Foot.foot c).Nodup) (hk:0≤k∧k+(zHq c:Nat)≤4611686018427387904):Cw Tryz.prog 35 [c.v,.int .i64 k] h (fun b=>b ∈ Foot.foot c) fun v h'=>v=.int .i64 (k+(zHq c:Nat))∧Enc.ok h' (zHp c k)∧Foot.own h' (zHp c k):=by
 have hdom:=fun b hb=>Foot.dom (x:=c) ho b hb
 have hcv:zHq c=Mk.cnt c.pas:=rfl
 have hft:Foot.foot c=Foot.foot c.pas:=rfl
 rw [hft] at hn
 rw [zHo] at ho
 have hmem:∀ b,b ∈ Foot.foot c ↔ b ∈ Foot.foot c.pas:=fun b=>by rw [hft]
 have ok0_0:Enc.ok h c.pas:=hc.2.2.2
 have ow0_0:Foot.own h c.pas:=ho
 have nd0:(Foot.foot c.pas).Nodup:=hn
 refine zlE (fun A W=>by simp) Tryz.func35 rfl rfl (by simp)  hdom fun W0 hW=>?_
 refine zid rfl ?_
 refine Evs ?_
 refine zlO [0,0,0,1] rfl ?_
 refine Evs ?_
 refine zlF (x:=⟨Tryz.prog,W0,h,_⟩) (zGL c.pas (k) _ ok0_0 ow0_0 nd0 (by omega)) rfl (fun b hb=>⟨Foot.dom (x:=c.pas) ow0_0 b hb,.inr (hW b ((hmem b).2 hb))⟩) ?_
 rintro v h0 kp0 ⟨rfl,pk0,pw0⟩
 refine Evs ?_
 repeat' first|refine zid rfl ?_|refine zc4 rfl ?_|refine zc7 ?_|refine zc8 ?_|refine zc5 ?_|refine zc6 ?_|(simp (maxSteps:=2000000) only [go_sem,yqa,yqb,yqc,yqd,yqe,yqf];try rfl)|refine zc3 ?_
 exact ⟨by rw [hcv],⟨hc.1,hc.2.1,hc.2.2.1,pk0⟩,pw0⟩
theorem zGR (c:DTide) (k:Int) (h:Hp) (hc:Enc.ok h c) (ho:Foot.own h c) (hn:(Foot.foot c).Nodup) (hk:0≤k∧k+(zmA c:Nat)≤4611686018427387904):Cw Tryz.prog 158 [c.v,.int .i64 k] h (fun b=>b ∈ Foot.foot c) fun v h'=>v=.int .i64 (k+(zmA c:Nat))∧Enc.ok h' (zmz c k)∧Foot.own h' (zmz c k):=by
 have hdom:=fun b hb=>Foot.dom (x:=c) ho b hb
 have hcv:zmA c=Mk.cnt c.parts:=rfl
 have hft:Foot.foot c=Foot.foot c.parts:=rfl
 rw [hft] at hn
 rw [zmq] at ho
 have hmem:∀ b,b ∈ Foot.foot c ↔ b ∈ Foot.foot c.parts:=fun b=>by rw [hft]
 have ok0_0:Enc.ok h c.parts:=hc.2
 have ow0_0:Foot.own h c.parts:=ho
 have nd0:(Foot.foot c.parts).Nodup:=hn
 refine zlE (fun A W=>by simp) Tryz.func158 rfl rfl (by simp)  hdom fun W0 hW=>?_
 refine zid rfl ?_
 refine Evs ?_
 refine zlO [0,0,0,1] rfl ?_
 refine Evs ?_
 refine zlF (x:=⟨Tryz.prog,W0,h,_⟩) (zGK c.parts (k) _ ok0_0 ow0_0 nd0 (by omega)) rfl (fun b hb=>⟨Foot.dom (x:=c.parts) ow0_0 b hb,.inr (hW b ((hmem b).2 hb))⟩) ?_
 rintro v h0 kp0 ⟨rfl,pk0,pw0⟩
 refine Evs ?_
 repeat' first|refine zid rfl ?_|refine zc4 rfl ?_|refine zc7 ?_|refine zc8 ?_|refine zc5 ?_|refine zc6 ?_|(simp (maxSteps:=2000000) only [go_sem,yqa,yqb,yqc,yqd,yqe,yqf];try rfl)|refine zc3 ?_
 exact ⟨by rw [hcv],⟨hc.1,pk0⟩,pw0⟩
theorem zGS (c:DForecast) (k:Int) (h:Hp) (hc:Enc.ok h c) (ho:Foot.own h c) (hn:(Foot.foot c).Nodup) (hk:0≤k∧k+(zmC c:Nat)≤4611686018427387904):Cw Tryz.prog 83 [c.v,.int .i64 k] h (fun b=>b ∈ Foot.foot c) fun v h'=>v=.int .i64 (k+(zmC c:Nat))∧Enc.ok h' (zmB c k)∧Foot.own h' (zmB c k):=by
 have hdom:=fun b hb=>Foot.dom (x:=c) ho b hb
 have hcv:zmC c=zmA c.tide+Mk.cnt c.surges:=rfl
 have hft:Foot.foot c=Foot.foot c.tide ++ Foot.foot c.surges:=rfl
 rw [hft] at hn
 rw [zms] at ho
 have hmem:∀ b,b ∈ Foot.foot c ↔ b ∈ Foot.foot c.tide∨b ∈ Foot.foot c.surges:=fun b=>by rw [hft];simp only [List.mem_append,or_assoc]
 simp only [List.nodup_append,List.mem_append] at hn
 have ok0_0:Enc.ok h c.tide:=hc.1
 have ow0_0:Foot.own h c.tide:=ho.1
 have nd0:(Foot.foot c.tide).Nodup:=hn.1
 have ok1_0:Enc.ok h c.surges:=hc.2
 have ow1_0:Foot.own h c.surges:=ho.2
 have nd1:(Foot.foot c.surges).Nodup:=hn.2.1
 have ds1_0:∀ b ∈ Foot.foot c.surges,¬ (b ∈ Foot.foot c.tide):=fun b hi hq=>hn.2.2 b hq b hi rfl
 refine zlE (fun A W=>by simp) Tryz.func83 rfl rfl (by simp)  hdom fun W0 hW=>?_
 refine zid rfl ?_
 refine Evs ?_
 refine zlO [0,0,0,1] rfl ?_
 refine Evs ?_
 refine zlF (x:=⟨Tryz.prog,W0,h,_⟩) (zGR c.tide (k) _ ok0_0 ow0_0 nd0 (by omega)) rfl (fun b hb=>⟨Foot.dom (x:=c.tide) ow0_0 b hb,.inr (hW b ((hmem b).2 (Or.inl hb)))⟩) ?_
 rintro v h0 kp0 ⟨rfl,pk0,pw0⟩
 obtain ⟨ok1_1,ow1_1⟩:=ok_keep (x:=c.surges) ok1_0 ow1_0 ds1_0 kp0
 refine Evs ?_
 refine zlO [0,0,0,1] rfl ?_
 refine Evs ?_
 refine zlF (x:=⟨Tryz.prog,W0,h,_⟩) (zGP c.surges (k+(zmA c.tide:Nat)) _ ok1_1 ow1_1 nd1 (by omega)) rfl (fun b hb=>⟨Foot.dom (x:=c.surges) ow1_1 b hb,.inr (hW b ((hmem b).2 (Or.inr hb)))⟩) ?_
 rintro v h1 kp1 ⟨rfl,pk1,pw1⟩
 have kk0_2:=ok_keep pk0 pw0 (fun b hb hi=>ds1_0 b hi (by rw [znM] at hb;exact hb)) kp1
 obtain ⟨pk0_2,pw0_2⟩:=kk0_2
 refine Evs ?_
 repeat' first|refine zid rfl ?_|refine zc4 rfl ?_|refine zc7 ?_|refine zc8 ?_|refine zc5 ?_|refine zc6 ?_|(simp (maxSteps:=2000000) only [go_sem,yqa,yqb,yqc,yqd,yqe,yqf];try rfl)|refine zc3 ?_
 exact ⟨by rw [hcv];congr 1;omega,⟨pk0_2,pk1⟩,⟨pw0_2,pw1⟩⟩
theorem zGT (s:Sl DOption) (k:Int) (h:Hp) (hs:s.Ok h) (ho:Foot.own h s) (hn:(Foot.foot s).Nodup) (hk:0≤k∧k+(Mk.cnt s:Nat)≤4611686018427387904):Cw Tryz.prog 42 [s.val,.int .i64 k] h (fun b=>b ∈ Foot.foot s) fun v h'=>v=.int .i64 (k+(Mk.cnt s:Nat))∧Enc.ok h' (Mk.put s k)∧Foot.own h' (Mk.put s k):=by
 have hmax:=hs.max
 have hcs:Mk.cnt s=cntL s.l:=rfl
 by_cases hl:s.l=[]
 ·refine zlE (fun A W=>by simp) Tryz.func42 rfl rfl (by simp)  (fun b hb=>Foot.dom ho b hb) fun W0 hW=>?_
  refine Wk ?_
  refine zdd (ι:=Unit) (fun _=>⟨[(0,true,.c (.v s.val)),(1,true,.c (.v (.int .i64 k))),(5,true,.c (.v (.int .i64 0)))],[],h,0⟩) (fun _=>True) (fun _=>0) () trivial ?_ ?_
  ·exact Evc
  rintro _ _
  refine Wk ?_
  refine zc9 rfl (fun hc=>?_) (fun hc=>?_)
  ·exact absurd (of_decide_eq_true hc) (by rw [hl];simp)
  ·refine Wk ?_
   refine ⟨by rw [hcs,hl];simp [cntL],⟨(by simp [Mk.put,hl,mkL]),fun hne=>(hne (by simp [Mk.put,hl,mkL])).elim,fun i x hx=>by simp [Mk.put,hl,mkL] at hx,fun x hx=>by simp [Mk.put,hl,mkL] at hx,hs.2.2.2.2⟩,fun hne=>(hne (by simp [Mk.put,hl,mkL])).elim⟩
 obtain ⟨g,e,spare,ha,hb,hsp⟩:=zml (by decide) hs ho hl
 have hsz:Enc.size DOption=4:=rfl
 have hft:Foot.foot s=s.blkOf :: s.l.flatMap Foot.foot:=Sl.foot_ne hl
 have hbo:s.blkOf=g:=by simp [Sl.blkOf,ha]
 have hfoot:g ∈ Foot.foot s:=by rw [hft,hbo];exact List.mem_cons_self ..
 have hnd:=hn
 rw [hft,hbo] at hnd
 have hgn:=(List.nodup_cons.1 hnd).1
 have hnd:=(List.nodup_cons.1 hnd).2
 have hin:∀ i (hi:i < s.l.length) b,b ∈ Foot.foot s.l[i]→b ∈ Foot.foot s:=fun i hi b hm=>by
  rw [hft];exact List.mem_cons_of_mem _ (List.mem_flatMap.2 ⟨_,List.getElem_mem hi,hm⟩)
 have hgi:∀ i (hi:i < s.l.length) b,b ∈ Foot.foot s.l[i]→b ≠ g:=fun i hi b hm e'=>hgn (by rw [← e'];exact List.mem_flatMap.2 ⟨_,List.getElem_mem hi,hm⟩)
 refine zlE (fun A W=>by simp) Tryz.func42 rfl rfl (by simp)  (fun b hb=>Foot.dom ho b hb) fun W0 hW=>?_
 refine Wk ?_
 refine zdd (ι:=Nat × Hp) (fun i=>⟨[(0,true,.c (.v s.val)),(1,true,.c (.v (.int .i64 (k+(cntL (s.l.take i.1):Nat))))),(5,true,.c (.v (.int .i64 i.1)))],[],i.2,0⟩) (fun i=>i.1≤s.l.length∧i.2 g=some (.cells (rowL (mkd s.l k i.1) spare).toArray e (0,0))∧∀ j (hj:j < s.l.length),(j < i.1→Enc.ok i.2 (Mk.put s.l[j] (k+(cntL (s.l.take j):Nat)))∧Foot.own i.2 (Mk.put s.l[j] (k+(cntL (s.l.take j):Nat))))∧(i.1≤j→Enc.ok i.2 s.l[j]∧Foot.own i.2 s.l[j])) (fun i=>s.l.length - i.1) (0,h) ⟨Nat.zero_le _,by rw [zma];exact hb,fun j hj=>⟨fun hj0=>absurd hj0 (Nat.not_lt_zero _),fun _=>⟨hs.2.2.2.1 _ (List.getElem_mem hj),(ho hl).2 _ (List.getElem_mem hj)⟩⟩⟩ ?_ ?_
 ·refine Evs ?_
  exact ⟨zjA (by rw [zl2];omega),rfl⟩
 rintro ⟨i,hk'⟩ ⟨hi,hb0,hok⟩
 refine Wk ?_
 refine zc9 rfl (fun hd=>?_) (fun hd=>?_)
 ·have hlt:=zjG hd
  have hcnt:=zl8 hlt
  have hcle:=zl9 (l:=s.l) (i:=i+1)
  have hc:Mk.cnt s.l[i]=3+Mk.cnt s.l[i].pas:=rfl
  have hcell:(rowL (mkd s.l k i) spare)[i * 4+3]?=some s.l[i].pas.val:=zmP (α:=DOption) (f:=3) (by rw [zmc];exact hlt) (by rw [zmd hlt];rfl)
  have hnext:rowL (mkd s.l k (i+1)) spare=spl (i * 4) (Enc.enc (Mk.put s.l[i] (k+(cntL (s.l.take i):Nat)))) (rowL (mkd s.l k i) spare):=by
   rw [← zme hlt];exact (zmS (α:=DOption) (by rw [zmc];exact hlt)).symm
  have hlen:i * 4+4≤(rowL (mkd s.l k i) spare).length:=by rw [zmf,zmc,hsz];omega
  obtain ⟨oki,owni⟩:=(hok i hlt).2 (Nat.le_refl _)
  generalize hκ:k+((cntL (s.l.take i):Nat):Int)=κ at hnext
  have hκ0:0≤κ∧κ+(Mk.cnt s.l[i]:Nat)≤4611686018427387904:=by omega
  generalize hX:rowL (mkd s.l k i) spare=X0 at hb0 hlen hcell hnext
  refine zc5 ?_
  refine Evs ?_
  refine zc3 ?_
  refine zc8 ?_
  refine zlO [0,0,0,0,0,1] rfl ?_
  simp (maxSteps:=2000000) only [go_sem,yqa,yqb,yqc,yqd,yqe,yqf,ha,hlt,Option.map_some,za4,Option.isSome_some,yqj,Nat.zero_add,Nat.add_zero,List.toList_toArray,Hp.ins_ins]
  refine zlZ (by simp only [go_sem]) (by simp only [go_sem]) rfl rfl hb0 (.inr (hW _ hfoot)) (by simp only [List.size_toArray];omega) ?_
  simp (maxSteps:=2000000) only [go_sem,yqa,yqb,yqc,yqd,yqe,yqf,ha,hlt,Option.map_some,za4,Option.isSome_some,yqj,Nat.zero_add,Nat.add_zero,List.toList_toArray,Hp.ins_ins]
  refine zid rfl ?_
  refine Evs ?_
  rw [zjy (by omega)]
  have hsl1:(spl (i * 4) [.int .i64 (κ)] X0).length=X0.length:=zmj (by simp only [List.length_cons,List.length_nil];omega)
  refine zlO [0,0,0,0,0,1] rfl ?_
  simp (maxSteps:=2000000) only [go_sem,yqa,yqb,yqc,yqd,yqe,yqf,ha,hlt,Option.map_some,za4,Option.isSome_some,yqj,Nat.zero_add,Nat.add_zero,List.toList_toArray,Hp.ins_ins]
  refine zlZ (by simp only [go_sem]) (by simp only [go_sem]) rfl rfl Hp.ins_same (.inr (hW _ hfoot)) (by simp only [List.size_toArray,hsl1];omega) ?_
  simp (maxSteps:=2000000) only [go_sem,yqa,yqb,yqc,yqd,yqe,yqf,ha,hlt,Option.map_some,za4,Option.isSome_some,yqj,Nat.zero_add,Nat.add_zero,List.toList_toArray,Hp.ins_ins]
  rw [show spl (i * 4+1) [.int .i64 (κ+1)] (spl (i * 4) [.int .i64 (κ)] X0)=spl (i * 4) [.int .i64 (κ),.int .i64 (κ+1)] X0 from zmi (m:=[.int .i64 (κ)]) (by simp only [List.length_cons,List.length_nil];omega)]
  refine zid rfl ?_
  refine Evs ?_
  rw [zjy (by omega)]
  have hsl2:(spl (i * 4) [.int .i64 (κ),.int .i64 (κ+1)] X0).length=X0.length:=zmj (by simp only [List.length_cons,List.length_nil];omega)
  refine zlO [0,0,0,0,0,1] rfl ?_
  simp (maxSteps:=2000000) only [go_sem,yqa,yqb,yqc,yqd,yqe,yqf,ha,hlt,Option.map_some,za4,Option.isSome_some,yqj,Nat.zero_add,Nat.add_zero,List.toList_toArray,Hp.ins_ins]
  refine zlZ (by simp only [go_sem]) (by simp only [go_sem]) rfl rfl Hp.ins_same (.inr (hW _ hfoot)) (by simp only [List.size_toArray,hsl2];omega) ?_
  simp (maxSteps:=2000000) only [go_sem,yqa,yqb,yqc,yqd,yqe,yqf,ha,hlt,Option.map_some,za4,Option.isSome_some,yqj,Nat.zero_add,Nat.add_zero,List.toList_toArray,Hp.ins_ins]
  rw [show spl (i * 4+2) [.int .i64 (κ+1+1)] (spl (i * 4) [.int .i64 (κ),.int .i64 (κ+1)] X0)=spl (i * 4) [.int .i64 (κ),.int .i64 (κ+1),.int .i64 (κ+1+1)] X0 from zmi (m:=[.int .i64 (κ),.int .i64 (κ+1)]) (by simp only [List.length_cons,List.length_nil];omega)]
  refine zid rfl ?_
  refine Evs ?_
  rw [zjy (by omega)]
  have hbc:(hk'.ins g (.cells (spl (i * 4) [.int .i64 (κ),.int .i64 (κ+1),.int .i64 (κ+1+1)] X0).toArray e (0,0))) g=some (.cells (spl (i * 4) [.int .i64 (κ),.int .i64 (κ+1),.int .i64 (κ+1+1)] X0).toArray e (0,0)):=Hp.ins_same
  have hcell2:(spl (i * 4) [.int .i64 (κ),.int .i64 (κ+1),.int .i64 (κ+1+1)] X0)[i * 4+3]?=some s.l[i].pas.val:=by
   rw [zmQ (by simp only [List.length_cons,List.length_nil];omega) (by simp only [List.length_cons,List.length_nil];omega)];exact hcell
  have hld:=zmO hbc hcell2
  try simp only [Nat.mul_one,Nat.add_zero] at hld
  have hne:∀ b,b ≠ g→(hk'.ins g (.cells (spl (i * 4) [.int .i64 (κ),.int .i64 (κ+1),.int .i64 (κ+1+1)] X0).toArray e (0,0))) b=hk' b:=fun b hb=>Hp.ins_ne hb
  have hmove:∀ j (hj:j < s.l.length) (x:DOption),Foot.foot x=Foot.foot s.l[j]→Enc.ok hk' x→Foot.own hk' x→Enc.ok (hk'.ins g (.cells (spl (i * 4) [.int .i64 (κ),.int .i64 (κ+1),.int .i64 (κ+1+1)] X0).toArray e (0,0))) x∧Foot.own (hk'.ins g (.cells (spl (i * 4) [.int .i64 (κ),.int .i64 (κ+1),.int .i64 (κ+1+1)] X0).toArray e (0,0))) x:=fun j hj x hx h1 h2=>Foot.loc h1 h2 fun b hb o' ho'=>by rw [hne b (hgi j hj b (by rw [← hx];exact hb))];exact ho'
  obtain ⟨oki',owni'⟩:=hmove i hlt _ rfl oki owni
  refine zlN [0,0,0,0,0,0,1] rfl ?_
  simp (maxSteps:=2000000) only [go_sem,yqa,yqb,yqc,yqd,yqe,yqf,ha,hlt,Option.map_some,za4,Option.isSome_some,yqj,Nat.zero_add,Nat.add_zero,List.toList_toArray,Hp.ins_ins,hld]
  refine zlF (x:=⟨Tryz.prog,W0,h,_⟩) (zGL s.l[i].pas (κ+1+1+1) _ oki'.2.2.2 owni' (zmN hnd (List.getElem_mem hlt)) (by omega)) rfl (fun b hb=>⟨Foot.dom owni' b hb,.inr (hW b (hin i hlt b hb))⟩) ?_
  rintro v h2 hkeep ⟨rfl,ok2,own2⟩
  refine Evs ?_
  refine Wk ?_
  have hg2:h2 g=some (.cells (rowL (mkd s.l k (i+1)) spare).toArray e (0,0)):=by
   rw [hnext]
   refine hkeep g _ ?_ (fun hb=>hgi i hlt g hb rfl)
   rw [hbc]
   congr 3
   rw [show Enc.enc (Mk.put s.l[i] κ)=[.int .i64 (κ),.int .i64 (κ+1),.int .i64 (κ+1+1)] ++ [s.l[i].pas.val] from ?_]
   ·rw [zmR hcell]
   ·simp only [Mk.put,Enc.enc,DOption.cells,Int.add_assoc,Int.reduceAdd,mkB,Sl.val,zl5]
    rfl
  refine ⟨(i+1,h2),⟨hlt,hg2,fun j hj=>⟨fun hji=>?_,fun hij=>?_⟩⟩,by simp only;omega,?_⟩
  ·rcases Nat.lt_succ_iff_lt_or_eq.1 hji with hji|rfl
   ·obtain ⟨h1,h3⟩:=(hok j hj).1 hji
    obtain ⟨h1,h3⟩:=hmove j hj _ (MkOk.foot _ _) h1 h3
    exact Foot.loc h1 h3 fun b hb o' ho'=>hkeep b o' ho' fun hb2=>zmM hnd hj hlt (by omega) b (by rw [← MkOk.foot s.l[j] (k+(cntL (s.l.take j):Nat))];exact hb) hb2
   ·simp only [hκ]
    exact ⟨(show Enc.ok h2 (Mk.put s.l[j] κ) from ⟨(by unfold I64;simp only [Mk.put];omega),(by unfold I64;simp only [Mk.put];omega),(by unfold I64;simp only [Mk.put];omega),(by have h9:=ok2;(try simp only [Int.add_assoc,Int.reduceAdd] at h9);exact h9)⟩),(show Foot.own h2 (Mk.put s.l[j] κ) from by have h9:=own2;(try simp only [Int.add_assoc,Int.reduceAdd] at h9);exact h9)⟩
  ·obtain ⟨h1,h3⟩:=(hok j hj).2 (by simp only at hij;omega)
   obtain ⟨h1,h3⟩:=hmove j hj _ rfl h1 h3
   exact Foot.loc h1 h3 fun b hb o' ho'=>hkeep b o' ho' fun hb2=>zmM hnd hj hlt (by simp only at hij;omega) b hb hb2
  ·refine Evs ?_
   exact ⟨zjA (by rw [hcnt,hc];omega),zjA (zjz hlt (by omega))⟩
 ·have hge:=zjH hd
  have hie:i=s.l.length:=Nat.le_antisymm hi hge
  refine Wk ?_
  have hp:mkd s.l k i=(Mk.put s k).l:=zmb hge
  rw [hp] at hb0
  have hll:(Mk.put s k).l.length=s.l.length:=zl5
  have hel:∀ x ∈ (Mk.put s k).l,Enc.ok hk' x∧Foot.own hk' x:=fun x hx=>by
   obtain ⟨j,hj,rfl⟩:=zmT hx
   exact (hok j hj).1 (by rw [hie];exact hj)
  have hsl:=zmk (α:=DOption) (h:=hk') (g:=g) (cap:=s.cap) (by decide) hb0 (by rw [hll];exact hs.1) hs.2.2.2.2 (fun x hx=>(hel x hx).1)
  have hsv:(Sl.mk (some ⟨g,0,none⟩) s.cap (Mk.put s k).l:Sl DOption)=Mk.put s k:=by rw [← ha];rfl
  rw [hsv] at hsl
  refine ⟨by rw [hie,List.take_length,hcs],hsl,fun _=>⟨⟨g,_,e,ha,hb0,?_⟩,fun x hx=>(hel x hx).2⟩⟩
  rw [List.size_toArray,zmf,hll,hsp]
  rfl
theorem zGU (c:DHarbour) (k:Int) (h:Hp) (hc:Enc.ok h c) (ho:Foot.own h c) (hn:(Foot.foot c).Nodup) (hk:0≤k∧k+(zmG c:Nat)≤4611686018427387904):Cw Tryz.prog 24 [c.v,.int .i64 k] h (fun b=>b ∈ Foot.foot c) fun v h'=>v=.int .i64 (k+(zmG c:Nat))∧Enc.ok h' (zmF c k)∧Foot.own h' (zmF c k):=by
 have hdom:=fun b hb=>Foot.dom (x:=c) ho b hb
 have hcv:zmG c=zmC c.forecast+zmE c.chart+Mk.cnt c.fleet+zmy c.crew:=rfl
 have hft:Foot.foot c=Foot.foot c.forecast ++ Foot.foot c.chart ++ Foot.foot c.fleet ++ Foot.foot c.crew:=rfl
 rw [hft] at hn
 rw [zmw] at ho
 have hmem:∀ b,b ∈ Foot.foot c ↔ b ∈ Foot.foot c.forecast∨b ∈ Foot.foot c.chart∨b ∈ Foot.foot c.fleet∨b ∈ Foot.foot c.crew:=fun b=>by rw [hft];simp only [List.mem_append,or_assoc]
 simp only [List.nodup_append,List.mem_append] at hn
 have ok0_0:Enc.ok h c.forecast:=hc.1
 have ow0_0:Foot.own h c.forecast:=ho.1
 have nd0:(Foot.foot c.forecast).Nodup:=hn.1.1.1
 have ok1_0:Enc.ok h c.chart:=hc.2.1
 have ow1_0:Foot.own h c.chart:=ho.2.1
 have nd1:(Foot.foot c.chart).Nodup:=hn.1.1.2.1
 have ds1_0:∀ b ∈ Foot.foot c.chart,¬ (b ∈ Foot.foot c.forecast):=fun b hi hq=>hn.1.1.2.2 b hq b hi rfl
 have ok2_0:Enc.ok h c.fleet:=hc.2.2.1
 have ow2_0:Foot.own h c.fleet:=ho.2.2.1
 have nd2:(Foot.foot c.fleet).Nodup:=hn.1.2.1
 have ds2_0:∀ b ∈ Foot.foot c.fleet,¬ (b ∈ Foot.foot c.forecast):=fun b hi hq=>hn.1.2.2 b (Or.inl hq) b hi rfl
 have ds2_1:∀ b ∈ Foot.foot c.fleet,¬ (b ∈ Foot.foot c.chart):=fun b hi hq=>hn.1.2.2 b (Or.inr hq) b hi rfl
 have ok3_0:Enc.ok h c.crew:=hc.2.2.2.2
 have ow3_0:Foot.own h c.crew:=ho.2.2.2
 have nd3:(Foot.foot c.crew).Nodup:=hn.2.1
 have ds3_0:∀ b ∈ Foot.foot c.crew,¬ (b ∈ Foot.foot c.forecast):=fun b hi hq=>hn.2.2 b (Or.inl (Or.inl hq)) b hi rfl
 have ds3_1:∀ b ∈ Foot.foot c.crew,¬ (b ∈ Foot.foot c.chart):=fun b hi hq=>hn.2.2 b (Or.inl (Or.inr hq)) b hi rfl
 have ds3_2:∀ b ∈ Foot.foot c.crew,¬ (b ∈ Foot.foot c.fleet):=fun b hi hq=>hn.2.2 b (Or.inr hq) b hi rfl
 refine zlE (fun A W=>by simp) Tryz.func24 rfl rfl (by simp)  hdom fun W0 hW=>?_
 refine zid rfl ?_
 refine Evs ?_
 refine zlO [0,0,0,1] rfl ?_
 refine Evs ?_
 refine zlF (x:=⟨Tryz.prog,W0,h,_⟩) (zGS c.forecast (k) _ ok0_0 ow0_0 nd0 (by omega)) rfl (fun b hb=>⟨Foot.dom (x:=c.forecast) ow0_0 b hb,.inr (hW b ((hmem b).2 (Or.inl hb)))⟩) ?_
 rintro v h0 kp0 ⟨rfl,pk0,pw0⟩
 obtain ⟨ok1_1,ow1_1⟩:=ok_keep (x:=c.chart) ok1_0 ow1_0 ds1_0 kp0
 obtain ⟨ok2_1,ow2_1⟩:=ok_keep (x:=c.fleet) ok2_0 ow2_0 ds2_0 kp0
 obtain ⟨ok3_1,ow3_1⟩:=ok_keep (x:=c.crew) ok3_0 ow3_0 ds3_0 kp0
 refine Evs ?_
 refine zlO [0,0,0,1] rfl ?_
 refine Evs ?_
 refine zlF (x:=⟨Tryz.prog,W0,h,_⟩) (zGQ c.chart (k+(zmC c.forecast:Nat)) _ ok1_1 ow1_1 nd1 (by omega)) rfl (fun b hb=>⟨Foot.dom (x:=c.chart) ow1_1 b hb,.inr (hW b ((hmem b).2 (Or.inr (Or.inl hb))))⟩) ?_
 rintro v h1 kp1 ⟨rfl,pk1,pw1⟩
 have kk0_2:=ok_keep pk0 pw0 (fun b hb hi=>ds1_0 b hi (by rw [znO] at hb;exact hb)) kp1
 obtain ⟨pk0_2,pw0_2⟩:=kk0_2
 obtain ⟨ok2_2,ow2_2⟩:=ok_keep (x:=c.fleet) ok2_1 ow2_1 ds2_1 kp1
 obtain ⟨ok3_2,ow3_2⟩:=ok_keep (x:=c.crew) ok3_1 ow3_1 ds3_1 kp1
 refine Evs ?_
 refine zlO [0,0,0,1] rfl ?_
 refine Evs ?_
 refine zlF (x:=⟨Tryz.prog,W0,h,_⟩) (zGO c.fleet (k+(zmC c.forecast:Nat)+(zmE c.chart:Nat)) _ ok2_2 ow2_2 nd2 (by omega)) rfl (fun b hb=>⟨Foot.dom (x:=c.fleet) ow2_2 b hb,.inr (hW b ((hmem b).2 (Or.inr (Or.inr (Or.inl hb)))))⟩) ?_
 rintro v h2 kp2 ⟨rfl,pk2,pw2⟩
 have kk0_3:=ok_keep pk0_2 pw0_2 (fun b hb hi=>ds2_0 b hi (by rw [znO] at hb;exact hb)) kp2
 obtain ⟨pk0_3,pw0_3⟩:=kk0_3
 have kk1_3:=ok_keep pk1 pw1 (fun b hb hi=>ds2_1 b hi (by rw [znQ] at hb;exact hb)) kp2
 obtain ⟨pk1_3,pw1_3⟩:=kk1_3
 obtain ⟨ok3_3,ow3_3⟩:=ok_keep (x:=c.crew) ok3_2 ow3_2 ds3_2 kp2
 refine Evs ?_
 refine zlO [0,0,0,1] rfl ?_
 refine Evs ?_
 refine zlF (x:=⟨Tryz.prog,W0,h,_⟩) (zGJ c.crew (k+(zmC c.forecast:Nat)+(zmE c.chart:Nat)+(Mk.cnt c.fleet:Nat)) _ ok3_3 ow3_3 nd3 (by omega)) rfl (fun b hb=>⟨Foot.dom (x:=c.crew) ow3_3 b hb,.inr (hW b ((hmem b).2 (Or.inr (Or.inr (Or.inr hb)))))⟩) ?_
 rintro v h3 kp3 ⟨rfl,pk3,pw3⟩
 have kk0_4:=ok_keep pk0_3 pw0_3 (fun b hb hi=>ds3_0 b hi (by rw [znO] at hb;exact hb)) kp3
 obtain ⟨pk0_4,pw0_4⟩:=kk0_4
 have kk1_4:=ok_keep pk1_3 pw1_3 (fun b hb hi=>ds3_1 b hi (by rw [znQ] at hb;exact hb)) kp3
 obtain ⟨pk1_4,pw1_4⟩:=kk1_4
 have kk2_4:=ok_keep pk2 pw2 (fun b hb hi=>ds3_2 b hi (by rw [MkOk.foot] at hb;exact hb)) kp3
 obtain ⟨pk2_4,pw2_4⟩:=kk2_4
 refine Evs ?_
 repeat' first|refine zid rfl ?_|refine zc4 rfl ?_|refine zc7 ?_|refine zc8 ?_|refine zc5 ?_|refine zc6 ?_|(simp (maxSteps:=2000000) only [go_sem,yqa,yqb,yqc,yqd,yqe,yqf];try rfl)|refine zc3 ?_
 exact ⟨by rw [hcv];congr 1;omega,⟨pk0_4,pk1_4,pk2_4,hc.2.2.2.1,pk3⟩,⟨pw0_4,pw1_4,pw2_4,pw3⟩⟩
end Go.Proofs.YtbkaaakphpbmiaaGreat
namespace Go.Proofs.YtbkaaakphpbmiaaGreat
open Go Go.SL
set_option maxHeartbeats 1000000
theorem zGV (s:Sl DPassage) (k:Int) (h:Hp) (hs:s.Ok h) (hm:mkL s.l k=s.l) (hk:0≤k∧k+(Mk.cnt s:Nat)≤4611686018427387904):Ct Tryz.prog 103 [s.val,.int .i64 k] h fun v h'=>v=.int .i64 (k+(Mk.cnt s:Nat))∧h'=h:=by
 have hmax:=hs.max
 have hcs:Mk.cnt s=cntL s.l:=rfl
 refine zdm (fun A W=>by simp) Tryz.func103 rfl rfl (by simp) fun W0=>?_
 refine Wk ?_
 refine zdd (ι:=Nat) (fun i=>⟨[(0,true,.c (.v s.val)),(1,true,.c (.v (.int .i64 (k+(cntL (s.l.take i):Nat))))),(5,true,.c (.v (.int .i64 i)))],[],h,0⟩) (fun i=>i≤s.l.length) (fun i=>s.l.length - i) 0 (Nat.zero_le _) ?_ ?_
 ·refine Evs ?_
  exact ⟨zjA (by rw [zl2];omega),rfl⟩
 intro i hi
 refine Wk ?_
 refine zc9 rfl (fun hd=>?_) (fun hd=>?_)
 ·have hlt:=zjG hd
  have hcnt:=zl8 hlt
  have hcle:=zl9 (l:=s.l) (i:=i+1)
  have hx:=zmI hm hlt
  generalize hκ:k+((cntL (s.l.take i):Nat):Int)=κ at hx
  have hκ0:0≤κ∧κ+(Mk.cnt s.l[i]:Nat)≤4611686018427387904:=by omega
  have hc:Mk.cnt s.l[i]=5:=rfl
  have hf0:s.l[i].ship=κ:=(congrArg DPassage.ship hx).trans (by simp only [Mk.put])
  have hf1:s.l[i].seg=κ+1:=(congrArg DPassage.seg hx).trans (by simp only [Mk.put])
  have hf2:s.l[i].toward=((κ+1+1).tmod 3 == 0):=(congrArg DPassage.toward hx).trans (by simp only [Mk.put,mkB,Int.add_assoc,Int.reduceAdd])
  have hf3:s.l[i].start=κ+1+1+1:=(congrArg DPassage.start hx).trans (by simp only [Mk.put];try omega)
  have hf4:s.l[i].fin=κ+1+1+1+1:=(congrArg DPassage.fin hx).trans (by simp only [Mk.put];try omega)
  repeat' first|refine zid rfl ?_|refine zc4 rfl ?_|refine zc7 ?_|refine zc8 ?_|refine zc5 ?_|refine zc6 ?_|(simp (maxSteps:=2000000) only [go_sem,yqa,yqb,yqc,yqd,yqe,yqf,zmU hs hlt,hs.some hlt,hlt,yqj];try rfl)|refine zc3 ?_
  refine zc9 rfl (fun hq=>?_) (fun hq=>?_)
  ·exact absurd hf0 (zjC hq)
  refine zc5 ?_
  refine Evs ?_
  refine zid rfl ?_
  refine Evs ?_
  rw [zjy (by omega)]
  repeat' first|refine zid rfl ?_|refine zc4 rfl ?_|refine zc7 ?_|refine zc8 ?_|refine zc5 ?_|refine zc6 ?_|(simp (maxSteps:=2000000) only [go_sem,yqa,yqb,yqc,yqd,yqe,yqf,zmU hs hlt,hs.some hlt,hlt,yqj];try rfl)|refine zc3 ?_
  refine zc9 rfl (fun hq=>?_) (fun hq=>?_)
  ·exact absurd hf1 (zjC hq)
  refine zc5 ?_
  refine Evs ?_
  refine zid rfl ?_
  refine Evs ?_
  rw [zjy (by omega)]
  repeat' first|refine zid rfl ?_|refine zc4 rfl ?_|refine zc7 ?_|refine zc8 ?_|refine zc5 ?_|refine zc6 ?_|(simp (maxSteps:=2000000) only [go_sem,yqa,yqb,yqc,yqd,yqe,yqf,zmU hs hlt,hs.some hlt,hlt,yqj];try rfl)|refine zc3 ?_
  refine ⟨by decide,?_⟩
  repeat' first|refine zid rfl ?_|refine zc4 rfl ?_|refine zc7 ?_|refine zc8 ?_|refine zc5 ?_|refine zc6 ?_|(simp (maxSteps:=2000000) only [go_sem,yqa,yqb,yqc,yqd,yqe,yqf,zmU hs hlt,hs.some hlt,hlt,yqj];try rfl)|refine zc3 ?_
  refine zc9 rfl (fun hq=>?_) (fun hq=>?_)
  ·exact absurd hf2 (zjC hq)
  refine zc5 ?_
  refine Evs ?_
  refine zid rfl ?_
  refine Evs ?_
  rw [zjy (by omega)]
  repeat' first|refine zid rfl ?_|refine zc4 rfl ?_|refine zc7 ?_|refine zc8 ?_|refine zc5 ?_|refine zc6 ?_|(simp (maxSteps:=2000000) only [go_sem,yqa,yqb,yqc,yqd,yqe,yqf,zmU hs hlt,hs.some hlt,hlt,yqj];try rfl)|refine zc3 ?_
  refine zc9 rfl (fun hq=>?_) (fun hq=>?_)
  ·exact absurd hf3 (zjC hq)
  refine zc5 ?_
  refine Evs ?_
  refine zid rfl ?_
  refine Evs ?_
  rw [zjy (by omega)]
  repeat' first|refine zid rfl ?_|refine zc4 rfl ?_|refine zc7 ?_|refine zc8 ?_|refine zc5 ?_|refine zc6 ?_|(simp (maxSteps:=2000000) only [go_sem,yqa,yqb,yqc,yqd,yqe,yqf,zmU hs hlt,hs.some hlt,hlt,yqj];try rfl)|refine zc3 ?_
  refine zc9 rfl (fun hq=>?_) (fun hq=>?_)
  ·exact absurd hf4 (zjC hq)
  refine zc5 ?_
  refine Evs ?_
  refine zc4 rfl ?_
  refine Evs ?_
  rw [zjy (by omega)]
  refine Wk ?_
  exact ⟨i+1,hlt,by omega,zjA (by rw [hcnt,hc];omega),zjA (zjz hlt (by omega))⟩
 ·have hge:=zjH hd
  have hie:i=s.l.length:=Nat.le_antisymm hi hge
  refine Wk ?_
  rw [hie,List.take_length,hcs]
theorem zGW (s:Sl DOption) (k:Int) (h:Hp) (hs:s.Ok h) (hm:mkL s.l k=s.l) (hk:0≤k∧k+(Mk.cnt s:Nat)≤4611686018427387904):Ct Tryz.prog 43 [s.val,.int .i64 k] h fun v h'=>v=.int .i64 (k+(Mk.cnt s:Nat))∧h'=h:=by
 have hmax:=hs.max
 have hcs:Mk.cnt s=cntL s.l:=rfl
 refine zdm (fun A W=>by simp) Tryz.func43 rfl rfl (by simp) fun W0=>?_
 refine Wk ?_
 refine zdd (ι:=Nat) (fun i=>⟨[(0,true,.c (.v s.val)),(1,true,.c (.v (.int .i64 (k+(cntL (s.l.take i):Nat))))),(5,true,.c (.v (.int .i64 i)))],[],h,0⟩) (fun i=>i≤s.l.length) (fun i=>s.l.length - i) 0 (Nat.zero_le _) ?_ ?_
 ·refine Evs ?_
  exact ⟨zjA (by rw [zl2];omega),rfl⟩
 intro i hi
 refine Wk ?_
 refine zc9 rfl (fun hd=>?_) (fun hd=>?_)
 ·have hlt:=zjG hd
  have hcnt:=zl8 hlt
  have hcle:=zl9 (l:=s.l) (i:=i+1)
  have hx:=zmI hm hlt
  generalize hκ:k+((cntL (s.l.take i):Nat):Int)=κ at hx
  have hκ0:0≤κ∧κ+(Mk.cnt s.l[i]:Nat)≤4611686018427387904:=by omega
  have hc:Mk.cnt s.l[i]=3+Mk.cnt s.l[i].pas:=rfl
  have hf0:s.l[i].start=κ:=(congrArg DOption.start hx).trans (by simp only [Mk.put])
  have hf1:s.l[i].arr=κ+1:=(congrArg DOption.arr hx).trans (by simp only [Mk.put])
  have hf2:s.l[i].cost=κ+1+1:=(congrArg DOption.cost hx).trans (by simp only [Mk.put];try omega)
  have hf3:mkL s.l[i].pas.l (κ+1+1+1)=s.l[i].pas.l:=((congrArg (fun z=>(DOption.pas z).l) hx).trans (by simp only [Mk.put,Int.add_assoc,Int.reduceAdd])).symm
  repeat' first|refine zid rfl ?_|refine zc4 rfl ?_|refine zc7 ?_|refine zc8 ?_|refine zc5 ?_|refine zc6 ?_|(simp (maxSteps:=2000000) only [go_sem,yqa,yqb,yqc,yqd,yqe,yqf,zmV hs hlt,hs.some hlt,hlt,yqj];try rfl)|refine zc3 ?_
  refine zc9 rfl (fun hq=>?_) (fun hq=>?_)
  ·exact absurd hf0 (zjC hq)
  refine zc5 ?_
  refine Evs ?_
  refine zid rfl ?_
  refine Evs ?_
  rw [zjy (by omega)]
  repeat' first|refine zid rfl ?_|refine zc4 rfl ?_|refine zc7 ?_|refine zc8 ?_|refine zc5 ?_|refine zc6 ?_|(simp (maxSteps:=2000000) only [go_sem,yqa,yqb,yqc,yqd,yqe,yqf,zmV hs hlt,hs.some hlt,hlt,yqj];try rfl)|refine zc3 ?_
  refine zc9 rfl (fun hq=>?_) (fun hq=>?_)
  ·exact absurd hf1 (zjC hq)
  refine zc5 ?_
  refine Evs ?_
  refine zid rfl ?_
  refine Evs ?_
  rw [zjy (by omega)]
  repeat' first|refine zid rfl ?_|refine zc4 rfl ?_|refine zc7 ?_|refine zc8 ?_|refine zc5 ?_|refine zc6 ?_|(simp (maxSteps:=2000000) only [go_sem,yqa,yqb,yqc,yqd,yqe,yqf,zmV hs hlt,hs.some hlt,hlt,yqj];try rfl)|refine zc3 ?_
  refine zc9 rfl (fun hq=>?_) (fun hq=>?_)
  ·exact absurd hf2 (zjC hq)
  refine zc5 ?_
  refine Evs ?_
  refine zid rfl ?_
  refine Evs ?_
  rw [zjy (by omega)]
  repeat' first|refine zid rfl ?_|refine zc4 rfl ?_|refine zc7 ?_|refine zc8 ?_|refine zc5 ?_|refine zc6 ?_|refine zhE (fun _=>zGV _ _ _ (hs.el hlt).2.2.2 hf3 (by omega)) ?_|(simp (maxSteps:=2000000) only [go_sem,yqa,yqb,yqc,yqd,yqe,yqf,zmV hs hlt,hs.some hlt,hlt,yqj];try rfl)|refine zc3 ?_|(refine And.intro ?_ ?_;focus (intros;simp_all only [yqg,yqh,yqi,and_self,true_and,and_true];done))
  refine zc9 rfl (fun hq=>?_) (fun hq=>?_)
  ·exact absurd (of_decide_eq_true hq) (by omega)
  refine Wk ?_
  exact ⟨i+1,hlt,by omega,zjA (by rw [hcnt,hc];omega),zjA (zjz hlt (by omega))⟩
 ·have hge:=zjH hd
  have hie:i=s.l.length:=Nat.le_antisymm hi hge
  refine Wk ?_
  rw [hie,List.take_length,hcs]
end Go.Proofs.YtbkaaakphpbmiaaGreat
