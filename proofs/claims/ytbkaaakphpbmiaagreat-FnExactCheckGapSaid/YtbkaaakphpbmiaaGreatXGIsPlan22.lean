/- What functions of the given program compute, each as a contract over what its arguments read as. No condition beside those that each theorem states. -/
import Derived.Test.YtbkaaakphpbmiaaGreatXGIsPlan21
set_option linter.unusedVariables false
set_option linter.unusedSimpArgs false
open Nat renaming reduceAdd → yqa, reduceMul → yqb, reduceBEq → yqc, reduceLeDiff → yqd, reduceLT → yqe, reduceEqDiff → yqf
open Bool renaming or_eq_false_iff → yqg, or_eq_true → yqh, and_eq_true → yqi
open Int renaming toNat_natCast → yqj, natCast_nonneg → yqk
namespace Go.Proofs.YtbkaaakphpbmiaaGreat
open Go Go.SL
set_option maxHeartbeats 1000000
def flr (l:List POption):Int:=if zyk l < 0 then -1 else (l.getD (zyk l).toNat zEN).cost
def zGi (c:PChart) (r:DRegime) (L:List (List POption)) (i:Nat) (n:Int):Int:=if n=i then flr (L.getD i []) else if (i:Int) < n then zFs c r (L.getD i []) (L.getD n.toNat []) else 0
def zGj (c:PChart) (r:DRegime) (L:List (List POption)) (m:List Int) (k:Nat) (s:Int):Option Int:=if zGi c r L k (m.getD k 0) < 0 then none else some (IntKind.i64.wrap (s+zGi c r L k (m.getD k 0)))
def zGk (c:PChart) (r:DRegime) (L:List (List POption)) (m:List Int):Nat→Option Int
 | 0=>some 0
 | k+1=>(zGk c r L m k).bind (zGj c r L m k)
def oIB (o:Option Int):Int × Bool:=match o with|none=>(0,false)|some s=>(s,true)
def zGl (x:PHarbour) (calls:List DCall):List (List POption):=calls.map (zE3 x)
noncomputable def zGm (x:PHarbour) (calls:List DCall) (m:List Int):Int × Bool:=if (zzI x calls && zGe calls m)=true then oIB (zGk x.chart x.regime (zGl x calls) m m.length) else (0,false)
theorem zGn {c:PChart} {r:DRegime} {L:List (List POption)} {m:List Int} {k:Nat} (h:zGk c r L m k=none):∀ {n:Nat},k≤n→zGk c r L m n=none
 | 0,hn=>by rw [← Nat.le_zero.1 hn,h]
 | n+1,hn=>by
  rcases Nat.lt_or_ge n k with hk|hk
  ·rw [show n+1=k by omega,h]
  ·rw [zGk,zGn h hk];rfl
theorem zGo {c:PChart} {r:DRegime} {L:List (List POption)} {m:List Int} {k n:Nat} {s:Int} (h:zGk c r L m k=some s) (hb:zGi c r L k (m.getD k 0) < 0) (hk:k < n):zGk c r L m n=none:=by
 refine zGn (k:=k+1) ?_ hk
 rw [zGk,h,Option.bind_some,zGj,if_pos hb]
theorem zGp {c:PChart} {r:DRegime} {L:List (List POption)} {m:List Int} {k:Nat} {s:Int} (h:zGk c r L m k=some s) (hb:¬ zGi c r L k (m.getD k 0) < 0):zGk c r L m (k+1)=some (IntKind.i64.wrap (s+zGi c r L k (m.getD k 0))):=by
 rw [zGk,h,Option.bind_some,zGj,if_neg hb]
theorem zGq {L:Sl (Sl DOption)} {i:Nat} (hi:i < L.l.length):(L.l.map fun s=>s.l.map (Con.con (α:=DOption))).getD i []=L.l[i].l.map Con.con:=by
 simp [List.getD_eq_getElem?_getD,hi]
set_option maxRecDepth 30000 in
theorem zGr (x:DHarbour) (L:Sl (Sl DOption)) (m:Sl Int) (h:Hp) (hx:Enc.ok h x) (hL:L.Ok h) (hm:m.Ok h) (hlen:m.l.length≤L.l.length) (hin:∀ i (hi:i < m.l.length),m.l[i] < L.l.length) (hok:∀ l ∈ L.l,l.l ≠ []→zy2 (Con.con x.chart)=true∧zzf x.regime=true) (hco:∀ l ∈ L.l,∀ y ∈ l.l,0≤y.cost):Ct Tryz.prog 105 [x.v,L.val,m.val] h fun v h'=>v=.tuple #[.int .i64 (oIB (zGk (Con.con x.chart) x.regime (L.l.map fun s=>s.l.map (Con.con (α:=DOption))) m.l m.l.length)).1,.bool (oIB (zGk (Con.con x.chart) x.regime (L.l.map fun s=>s.l.map (Con.con (α:=DOption))) m.l m.l.length)).2]∧h'=h:=by
 have hlm:=hm.max
 have hlL:=hL.max
 refine zdm (fun A W=>by simp) Tryz.func105 rfl rfl (by simp) fun W0=>?_
 refine Wk ?_
 refine zdd (ι:=Nat × Int) (fun i=>⟨[(1,true,.c (.v L.val)),(3,true,.c (.p 0 0)),(6,true,.c (.v (.int .i64 0))),(7,true,.c (.v (.bool false))),(8,true,.c (.v (.int .i64 i.2))),(13,true,.c (.v m.val)),(14,true,.c (.v (.int .i64 m.l.length))),(15,true,.c (.v (.int .i64 i.1)))],[(0,.box 62 [.v (.int .i64 x.forecast.tide.mean),.v x.forecast.tide.parts.val,.v x.forecast.surges.val,.v x.chart.points.val,.v x.chart.segments.val,.v x.fleet.val,.v (.int .i64 x.regime.gap),.v (.bool x.regime.noMeet),.v (.int .i64 x.crew.tugs),.v (.int .i64 x.crew.pilots),.v (.int .i64 x.crew.rest),.v x.crew.moves.val])],h,1⟩) (fun i=>i.1≤m.l.length∧zGk (Con.con x.chart) x.regime (L.l.map fun s=>s.l.map (Con.con (α:=DOption))) m.l i.1=some i.2) (fun i=>m.l.length - i.1) (0,0) ⟨Nat.zero_le _,rfl⟩ ?_ ?_
 ·refine Evs ?_
  first|exact rfl|exact ⟨rfl,rfl⟩|exact ⟨rfl,rfl,rfl⟩|exact ⟨rfl,rfl,rfl,rfl⟩|exact ⟨rfl,rfl,rfl,rfl,rfl⟩
 rintro ⟨k,z⟩ ⟨hk,hgo⟩
 simp only at hk hgo
 refine Wk ?_
 refine zc9 rfl (fun hd=>?_) (fun hd=>?_)
 ·have hlt:=zjG hd
  have hmk:m.l.getD k 0=m.l[k]:=iget hlt
  have hkL:k < L.l.length:=by omega
  have hkL2:(k:Int) < L.l.length:=by omega
  have hlk:=(hL.el hkL).max
  repeat' first|refine zid rfl ?_|refine zc4 rfl ?_|refine zc7 ?_|refine zc8 ?_|refine zc5 ?_|refine zc6 ?_|(simp (maxSteps:=2000000) only [go_sem,yqa,yqb,yqc,yqd,yqe,yqf,atI hm hlt,hm.some hlt,hlt,yqj];try rfl)|refine zc3 ?_|(refine And.intro ?_ ?_;focus (intros;simp_all only [yqg,yqh,yqi,and_self,true_and,and_true];done))
  refine zc9 rfl (fun hq=>?_) (fun hq=>?_)
  ·have hq:=eq_of_beq hq
   have hA:zGi (Con.con x.chart) x.regime (L.l.map fun s=>s.l.map (Con.con (α:=DOption))) k (m.l.getD k 0)=flr (L.l[k].l.map Con.con):=by rw [zGi,hmk,if_pos hq,zGq hkL]
   repeat' first|refine zid rfl ?_|refine zc4 rfl ?_|refine zc7 ?_|refine zc8 ?_|refine zc5 ?_|refine zc6 ?_|refine zhE (fun _=>zyn L.l[k] _ (hL.el hkL)) ?_|(simp (maxSteps:=2000000) only [go_sem,yqa,yqb,yqc,yqd,yqe,yqf,zkN hL hkL,hL.some hkL,hkL,hkL2,yqj];try rfl)|refine zc3 ?_|(refine And.intro ?_ ?_;focus (intros;simp_all only [yqg,yqh,yqi,and_self,true_and,and_true];done))
   have okk:=hL.el hkL
   have hdef:Con.con L.l[k]=L.l[k].l.map (Con.con (α:=DOption)):=rfl
   rw [hdef]
   rcases zFd (L.l[k].l.map (Con.con (α:=DOption))) with ⟨_,e⟩|⟨e1,e2⟩
   ·rw [e]
    refine zc9 rfl (fun hq=>?_) (fun hq=>?_)
    case refine_2=>cases hq
    refine Wk ?_
    rw [zGo hgo (by rw [hA,flr,e,if_pos (by decide)];decide) hlt]
    rfl
   ·obtain ⟨c,hc⟩:∃ c,zyk (L.l[k].l.map (Con.con (α:=DOption)))=c:=⟨_,rfl⟩
    rw [hc] at e1 e2 ⊢
    rw [zFw] at e2
    have hci:c.toNat < L.l[k].l.length:=by omega
    have hc2:c < (L.l[k].l.length:Int):=by omega
    have hfl:flr (L.l[k].l.map Con.con)=L.l[k].l[c.toNat].cost:=by rw [flr,hc,if_neg (by omega),zFe rfl hci]
    have hge0:=hco _ (List.getElem_mem hkL) _ (List.getElem_mem hci)
    have hgo2:=zGp hgo (by rw [hA,hfl];omega)
    rw [hA,hfl] at hgo2
    refine zc9 rfl (fun hq=>?_) (fun hq=>?_)
    ·exact absurd (of_decide_eq_true hq) (by omega)
    repeat' first|refine zid rfl ?_|refine zc4 rfl ?_|refine zc7 ?_|refine zc8 ?_|refine zc5 ?_|refine zc6 ?_|(simp (maxSteps:=2000000) only [go_sem,yqa,yqb,yqc,yqd,yqe,yqf,zkN hL hkL,hL.some hkL,hkL,hkL2,zmV okk hci,okk.some hci,hci,e1,hc2,yqj,implies_true,true_and,and_true,and_self];try rfl)|refine zc3 ?_|(refine And.intro ?_ ?_;focus (intros;simp_all only [yqg,yqh,yqi,and_self,true_and,and_true];done))
    refine ⟨(k+1,IntKind.i64.wrap (z+L.l[k].l[c.toNat].cost)),⟨hlt,hgo2⟩,by simp only;omega,?_⟩
    refine Evs ?_
    exact zjA (zjz hlt (by omega))
  ·have hq:=ne_of_beq_false hq
   refine Wk ?_
   refine zc9 rfl (fun hq2=>?_) (fun hq2=>?_)
   ·have hq2:=of_decide_eq_true hq2
    have hn1:=hin k hlt
    have hn0:(0:Int)≤m.l[k]:=by omega
    have hnL:m.l[k].toNat < L.l.length:=by omega
    have hA:zGi (Con.con x.chart) x.regime (L.l.map fun s=>s.l.map (Con.con (α:=DOption))) k (m.l.getD k 0)=zFs (Con.con x.chart) x.regime (L.l[k].l.map Con.con) (L.l[m.l[k].toNat].l.map Con.con):=by rw [zGi,hmk,if_neg hq,if_pos hq2,zGq hkL,zGq hnL]
    refine Wk ?_
    refine zAZ rfl ?_
    refine zAS [0,1,2,5,6,3,7,4,8] rfl (by kernel_rfl) ?_
    simp (maxSteps:=2000000) only [go_sem,yqa,yqb,yqc,yqd,yqe,yqf,zkN hL hkL,hL.some hkL,hkL,zkN hL hnL,hL.some hnL,hnL,hn0,hn1,yqj,implies_true,true_and,and_true,and_self]
    refine zAX 9 0 [] rfl (by kernel_rfl) (by kernel_rfl) (by kernel_rfl) rfl ?_
    simp (maxSteps:=2000000) only [go_sem,yqa,yqb,yqc,yqd,yqe,yqf,zkN hL hkL,hL.some hkL,hkL,zkN hL hnL,hL.some hnL,hnL,hn0,hn1,yqj,implies_true,true_and,and_true,and_self]
    refine zhE (fun _=>zFz x L.l[k] L.l[m.l[k].toNat] _ hx (hL.el hkL) (hL.el hnL) (fun hne=>hok _ (List.getElem_mem hkL) hne)) ?_
    simp (maxSteps:=2000000) only [go_sem,yqa,yqb,yqc,yqd,yqe,yqf,zkN hL hkL,hL.some hkL,hkL,zkN hL hnL,hL.some hnL,hnL,hn0,hn1,yqj,implies_true,true_and,and_true,and_self]
    refine zAS [10] rfl (by kernel_rfl) ?_
    simp (maxSteps:=2000000) only [go_sem,yqa,yqb,yqc,yqd,yqe,yqf,zkN hL hkL,hL.some hkL,hkL,zkN hL hnL,hL.some hnL,hnL,hn0,hn1,yqj,implies_true,true_and,and_true,and_self]
    refine zAY (by kernel_rfl) ?_
    refine Wk ?_
    refine zc9 rfl (fun hq3=>?_) (fun hq3=>?_)
    ·refine Wk ?_
     rw [zGo hgo (by rw [hA];exact of_decide_eq_true hq3) hlt]
     rfl
    ·have hgo2:=zGp hgo (by rw [hA];exact of_decide_eq_false hq3)
     rw [hA] at hgo2
     refine Wk ?_
     refine ⟨(k+1,IntKind.i64.wrap (z+zFs (Con.con x.chart) x.regime (L.l[k].l.map Con.con) (L.l[m.l[k].toNat].l.map Con.con))),⟨hlt,hgo2⟩,by simp only;omega,?_⟩
     refine Evs ?_
     exact zjA (zjz hlt (by omega))
   ·have hq2:=of_decide_eq_false hq2
    have hA:zGi (Con.con x.chart) x.regime (L.l.map fun s=>s.l.map (Con.con (α:=DOption))) k (m.l.getD k 0)=0:=by rw [zGi,hmk,if_neg hq,if_neg hq2]
    have hgo2:=zGp hgo (by rw [hA];decide)
    rw [hA] at hgo2
    refine Wk ?_
    refine ⟨(k+1,IntKind.i64.wrap (z+0)),⟨hlt,hgo2⟩,by simp only;omega,?_⟩
    refine Evs ?_
    exact zjA (zjz hlt (by omega))
 ·have hge:=zjH hd
  obtain rfl:k=m.l.length:=by omega
  refine Wk ?_
  rw [hgo]
  rfl
theorem zGs (x:DHarbour) (a:Sl DCall) (h:Hp) (hx:Enc.ok h x) (ha:a.Ok h) (hz:a.l.length≤1048576):Ct Tryz.prog 106 [x.v,a.val] h fun v h'=>∃ s:Sl (Sl DOption),v=s.val∧s.l.map (fun l=>l.l.map (Con.con (α:=DOption)))=zGl (Con.con x) a.l∧s.Ok h'∧Mine h h' s:=by
 have hl:=ha.max
 refine zdm (fun A W=>by simp) Tryz.func106 rfl rfl (by simp) fun W0=>?_
 refine Wk ?_
 refine zm6 (ι:=Nat × List (Sl DOption) × Hp) (fun i=>⟨[(2,true,.c (.p 0 0)),(4,true,.c (.v (.slice none 0 0))),(5,true,.c (.s 1)),(9,true,.c (.v a.val)),(10,true,.c (.v (.int .i64 a.l.length))),(11,true,.c (.v (.int .i64 i.1)))],[(0,.box 62 [.v (.int .i64 x.forecast.tide.mean),.v x.forecast.tide.parts.val,.v x.forecast.surges.val,.v x.chart.points.val,.v x.chart.segments.val,.v x.fleet.val,.v (.int .i64 x.regime.gap),.v (.bool x.regime.noMeet),.v (.int .i64 x.crew.tugs),.v (.int .i64 x.crew.pilots),.v (.int .i64 x.crew.rest),.v x.crew.moves.val]),(1,.row 93 1 i.2.1.length (i.2.1.flatMap Enc.enc))],i.2.2,2⟩) (fun i=>i.1≤a.l.length∧i.2.1.length=i.1∧i.2.1.map (fun l=>l.l.map (Con.con (α:=DOption)))=(a.l.take i.1).map (zE3 (Con.con x))∧(∀ y ∈ i.2.1,Enc.ok i.2.2 y)∧Mines h i.2.2 i.2.1∧h.le i.2.2) (fun i=>a.l.length - i.1) (0,[],h) ⟨Nat.zero_le _,rfl,rfl,fun y hy=>(by cases hy),Mines.nil,Hp.le_refl _⟩ [0,1] ?_ ?_
 ·refine Evs ?_
  repeat' first|exact rfl|exact trivial|assumption|decide|refine And.intro ?_ ?_
 rintro ⟨k,acc,hk⟩ ⟨hkl,hal,hac,hacok,hacm,hle⟩
 simp only at hkl hal hac hacok hacm hle
 have hak:=ha.mono hle
 have hxk:Enc.ok hk x:=Enc.mono hle hx
 refine Wk ?_
 refine zc9 rfl (fun hd=>?_) (fun hd=>?_)
 ·have hlt:=zjG hd
  repeat' first|refine zid rfl ?_|refine zc4 rfl ?_|refine zc7 ?_|refine zc8 ?_|refine zc5 ?_|refine zc6 ?_|(simp (maxSteps:=2000000) only [go_sem,yqa,yqb,yqc,yqd,yqe,yqf,zkQ hak hlt,hak.some hlt,hlt,yqj];try rfl)|refine zc3 ?_|(refine And.intro ?_ ?_;focus (intros;simp_all only [yqg,yqh,yqi,and_self,true_and,and_true];done))
  refine zko (zFg x a.l[k] _ hxk (hak.el hlt)) rfl ?_
  rintro v h2 le2 ⟨s,rfl,es,oks,ms⟩
  refine Wk ?_
  refine ⟨by simp only [maxLen];omega,by omega,?_⟩
  refine Wk ?_
  have hle2:=Hp.le_trans hle le2
  have hw:IntKind.i64.wrap ((k:Int)+1)=((k+1:Nat):Int):=zjz hlt (by omega)
  refine ⟨(k+1,acc ++ [s],h2),[0,4],⟨hlt,?_,?_,fun y hy=>?_,Mines.snoc hacm hacok le2 hle ms,hle2⟩,by simp only;omega,?_⟩
  ·show (acc ++ [s]).length=k+1
   rw [List.length_append,hal];rfl
  ·show (acc ++ [s]).map _=(a.l.take (k+1)).map _
   rw [List.map_append,hac,List.take_succ_eq_append_getElem hlt,List.map_append]
   congr 1
   exact congrArg (fun z=>[z]) es
  ·rcases List.mem_append.1 hy with hy|hy
   ·exact Enc.mono le2 (hacok y hy)
   ·rw [List.mem_singleton.1 hy];exact oks
  refine Evs ?_
  rw [hw]
  simp only [List.flatMap_append,List.length_append]
  repeat' first|exact rfl|exact trivial|assumption|decide|refine And.intro ?_ ?_
 ·have hge:=zjH hd
  refine zc6 ?_
  refine Evs ?_
  refine zl1 1 acc rfl rfl rfl rfl (by decide) hacok h hle hacm fun q h' e2 e3 e4 e5=>?_
  refine Wk ?_
  refine ⟨q,rfl,?_,e3,e5⟩
  rw [e2,hac,List.take_of_length_le hge];rfl
end Go.Proofs.YtbkaaakphpbmiaaGreat
namespace Go.Proofs.YtbkaaakphpbmiaaGreat
open Go Go.SL
set_option maxHeartbeats 1000000
theorem zGt {x:PHarbour} {l:List DCall} {i:Nat} (hi:i < l.length):(zGl x l).getD i []=zE3 x l[i]:=by
 rw [zGl,List.getD_eq_getElem?_getD,List.getElem?_map,List.getElem?_eq_getElem hi];rfl
theorem zGu {x:PHarbour} {l:List DCall}:(zGl x l).length=l.length:=List.length_map ..
theorem zGv {x:DHarbour} {a:List DCall} {L:List (Sl DOption)} (h:L.map (fun l=>l.l.map (Con.con (α:=DOption)))=zGl (Con.con x) a):(∀ l ∈ L,l.l ≠ []→zy2 (Con.con x.chart)=true∧zzf x.regime=true)∧(∀ l ∈ L,∀ y ∈ l.l,0≤y.cost∧y.cost≤2880):=by
 have key:∀ l ∈ L,∃ c ∈ a,l.l.map (Con.con (α:=DOption))=zE3 (Con.con x) c:=fun l hl=>by
  have:l.l.map (Con.con (α:=DOption)) ∈ zGl (Con.con x) a:=by rw [← h];exact List.mem_map.2 ⟨l,hl,rfl⟩
  obtain ⟨c,hc,e⟩:=List.mem_map.1 this
  exact ⟨c,hc,e.symm⟩
 refine ⟨fun l hl hne=>?_,fun l hl y hy=>?_⟩
 ·obtain ⟨c,_,e⟩:=key l hl
  exact zFA (zFB e hne)
 ·obtain ⟨c,_,e⟩:=key l hl
  have:Con.con y ∈ zE3 (Con.con x) c:=by rw [← e];exact List.mem_map.2 ⟨y,hy,rfl⟩
  exact zGc _ this
theorem zGw {n:Nat} {m:List Int} (h:zGd n m):m.length=n∧∀ i (hi:i < m.length),0≤m[i]∧m[i] < m.length:=⟨h.1,h.2.1⟩
theorem zGx {x:PHarbour} {l:List DCall} (h:zzI x l=true):l.length≤6:=by
 simp only [zzI,yqi,decide_eq_true_eq] at h
 exact h.1.2
set_option maxRecDepth 30000 in
theorem zGy (x:DHarbour) (a:Sl DCall) (m:Sl Int) (h:Hp) (hx:Enc.ok h x) (ha:a.Ok h) (hm:m.Ok h):Ct Tryz.prog 37 [x.v,a.val,m.val] h fun v h'=>v=.tuple #[.int .i64 (zGm (Con.con x) (Con.con a) (Con.con m)).1,.bool (zGm (Con.con x) (Con.con a) (Con.con m)).2]∧h'=h:=by
 have hla:=ha.max
 have hlm:=hm.max
 refine Ct.forget ?_
 refine zdm (fun A W=>by simp) Tryz.func37 rfl rfl (by simp) fun W0=>?_
 repeat' first|refine zid rfl ?_|refine zc4 rfl ?_|refine zc7 ?_|refine zc8 ?_|refine zc5 ?_|refine zc6 ?_|refine zhE (fun _=>zzK x a _ hx ha) ?_|refine zhE (fun _=>zGh a m _ ha hm) ?_|(simp (maxSteps:=2000000) only [go_sem,yqa,yqb,yqc,yqd,yqe,yqf];try rfl)|refine zc3 ?_|(refine And.intro ?_ ?_;focus (intros;simp_all only [yqg,yqh,yqi,and_self,true_and,and_true];done))
 refine zc9 rfl (fun hc=>?_) (fun hc=>?_)
 ·have hF:zGm (Con.con x) (Con.con a) (Con.con m)=(0,false):=by
   rw [zGm,if_neg]
   intro H
   rw [yqi] at H
   rw [H.1,H.2] at hc
   cases hc
  rw [hF]
  exact Wk0
 obtain ⟨hc1,hc2⟩:=Bool.or_eq_false_iff.1 hc
 rw [Bool.not_eq_false'] at hc1 hc2
 have hF:zGm (Con.con x) (Con.con a) (Con.con m)=oIB (zGk (Con.con x.chart) x.regime (zGl (Con.con x) a.l) m.l m.l.length):=by
  rw [zGm,hc1,hc2,zzJ,zkx];rfl
 rw [zzJ] at hc1
 have h6:=zGx hc1
 have hz:a.l.length≤1048576:=by omega
 rw [zGf] at hc2
 obtain ⟨hml,hmi⟩:=zGw (of_decide_eq_true hc2)
 rw [hF]
 refine Wk ?_
 refine zAZ rfl ?_
 refine zAS [0,1,2,4] rfl (by kernel_rfl) ?_
 refine Evs ?_
 refine zAX 3 0 [0] rfl (by kernel_rfl) (by kernel_rfl) (by kernel_rfl) rfl ?_
 refine Evs ?_
 refine zko (zGs x a _ hx ha hz) rfl ?_
 rintro v h1 le1 ⟨L,rfl,eL,okL,mL⟩
 have hlen:L.l.length=a.l.length:=by have:=congrArg List.length eL;rwa [List.length_map,zGu] at this
 refine Evs ?_
 refine zAX 5 0 [] rfl (by kernel_rfl) (by kernel_rfl) (by kernel_rfl) rfl ?_
 refine Evs ?_
 refine zhE (fun _=>zGr x L m _ (Enc.mono le1 hx) okL (hm.mono le1) (by omega) (fun i hi=>by have:=hmi i hi;omega) (zGv eL).1 (fun l hl y hy=>((zGv eL).2 l hl y hy).1)) ?_
 rw [eL]
 refine Evs ?_
 refine zAS [6,7,8,9] rfl (by kernel_rfl) ?_
 refine Evs ?_
 refine zAY (by kernel_rfl) ?_
 exact Wk0
set_option maxRecDepth 30000 in
theorem zGz (x:DHarbour) (a:Sl DCall) (m:Sl Int) (h:Hp) (hx:Enc.ok h x) (ha:a.Ok h) (hm:m.Ok h):Ct Tryz.prog 38 [x.v,a.val,m.val] h fun v h'=>v=.tuple #[.int .i64 (zGm (Con.con x) (Con.con a) (Con.con m)).1,.bool (zGm (Con.con x) (Con.con a) (Con.con m)).2]∧h'=h:=by
 have hla:=ha.max
 have hlm:=hm.max
 refine Ct.forget ?_
 refine zdm (fun A W=>by simp) Tryz.func38 rfl rfl (by simp) fun W0=>?_
 repeat' first|refine zid rfl ?_|refine zc4 rfl ?_|refine zc7 ?_|refine zc8 ?_|refine zc5 ?_|refine zc6 ?_|refine zhE (fun _=>zzL x a _ hx ha) ?_|refine zhE (fun _=>zGg a m _ ha hm) ?_|(simp (maxSteps:=2000000) only [go_sem,yqa,yqb,yqc,yqd,yqe,yqf];try rfl)|refine zc3 ?_|(refine And.intro ?_ ?_;focus (intros;simp_all only [yqg,yqh,yqi,and_self,true_and,and_true];done))
 refine zc9 rfl (fun hc=>?_) (fun hc=>?_)
 ·have hF:zGm (Con.con x) (Con.con a) (Con.con m)=(0,false):=by
   rw [zGm,if_neg]
   intro H
   rw [yqi] at H
   rw [H.1,H.2] at hc
   cases hc
  rw [hF]
  exact Wk0
 obtain ⟨hc1,hc2⟩:=Bool.or_eq_false_iff.1 hc
 rw [Bool.not_eq_false'] at hc1 hc2
 have hF:zGm (Con.con x) (Con.con a) (Con.con m)=oIB (zGk (Con.con x.chart) x.regime (zGl (Con.con x) a.l) m.l m.l.length):=by
  rw [zGm,hc1,hc2,zzJ,zkx];rfl
 rw [zzJ] at hc1
 have h6:=zGx hc1
 have hz:a.l.length≤1048576:=by omega
 rw [zGf] at hc2
 obtain ⟨hml,hmi⟩:=zGw (of_decide_eq_true hc2)
 rw [hF]
 refine Wk ?_
 refine zdd (ι:=Nat × Int) (fun i=>⟨[(1,true,.c (.v a.val)),(3,true,.c (.p 0 0)),(6,true,.c (.v (.int .i64 0))),(7,true,.c (.v (.bool false))),(8,true,.c (.v (.int .i64 i.2))),(22,true,.c (.v m.val)),(23,true,.c (.v (.int .i64 m.l.length))),(24,true,.c (.v (.int .i64 i.1)))],[(0,.box 62 [.v (.int .i64 x.forecast.tide.mean),.v x.forecast.tide.parts.val,.v x.forecast.surges.val,.v x.chart.points.val,.v x.chart.segments.val,.v x.fleet.val,.v (.int .i64 x.regime.gap),.v (.bool x.regime.noMeet),.v (.int .i64 x.crew.tugs),.v (.int .i64 x.crew.pilots),.v (.int .i64 x.crew.rest),.v x.crew.moves.val])],h,1⟩) (fun i=>i.1≤m.l.length∧zGk (Con.con x.chart) x.regime (zGl (Con.con x) a.l) m.l i.1=some i.2) (fun i=>m.l.length - i.1) (0,0) ⟨Nat.zero_le _,rfl⟩ ?_ ?_
 ·refine Evs ?_
  first|exact rfl|exact ⟨rfl,rfl⟩|exact ⟨rfl,rfl,rfl⟩|exact ⟨rfl,rfl,rfl,rfl⟩|exact ⟨rfl,rfl,rfl,rfl,rfl⟩
 rintro ⟨k,z⟩ ⟨hk,hgo⟩
 simp only at hk hgo
 refine Wk ?_
 refine zc9 rfl (fun hd=>?_) (fun hd=>?_)
 ·have hlt:=zjG hd
  have hmk:m.l.getD k 0=m.l[k]:=iget hlt
  have hkL:k < a.l.length:=by omega
  have hkL2:(k:Int) < a.l.length:=by omega
  repeat' first|refine zid rfl ?_|refine zc4 rfl ?_|refine zc7 ?_|refine zc8 ?_|refine zc5 ?_|refine zc6 ?_|(simp (maxSteps:=2000000) only [go_sem,yqa,yqb,yqc,yqd,yqe,yqf,atI hm hlt,hm.some hlt,hlt,yqj];try rfl)|refine zc3 ?_|(refine And.intro ?_ ?_;focus (intros;simp_all only [yqg,yqh,yqi,and_self,true_and,and_true];done))
  refine zc9 rfl (fun hq=>?_) (fun hq=>?_)
  ·have hq:=eq_of_beq hq
   have hA:zGi (Con.con x.chart) x.regime (zGl (Con.con x) a.l) k (m.l.getD k 0)=zFc (Con.con x) (Con.con a.l[k]):=by rw [zGi,hmk,if_pos hq,zGt hkL];rfl
   refine Wk ?_
   refine zAZ rfl ?_
   refine zAS [0,1,2,3,4] rfl (by kernel_rfl) ?_
   simp (maxSteps:=2000000) only [go_sem,yqa,yqb,yqc,yqd,yqe,yqf,zkQ ha hkL,ha.some hkL,hkL,hkL2,yqj,yqk,implies_true,true_and,and_true,and_self]
   refine zAX 5 0 [] rfl (by kernel_rfl) (by kernel_rfl) (by kernel_rfl) rfl ?_
   simp (maxSteps:=2000000) only [go_sem,yqa,yqb,yqc,yqd,yqe,yqf,zkQ ha hkL,ha.some hkL,hkL,hkL2,yqj,yqk,implies_true,true_and,and_true,and_self]
   refine zhE (fun _=>zFh x a.l[k] _ hx (ha.el hkL)) ?_
   simp (maxSteps:=2000000) only [go_sem,yqa,yqb,yqc,yqd,yqe,yqf,zkQ ha hkL,ha.some hkL,hkL,hkL2,yqj,yqk,implies_true,true_and,and_true,and_self]
   refine zAS [6] rfl (by kernel_rfl) ?_
   simp (maxSteps:=2000000) only [go_sem,yqa,yqb,yqc,yqd,yqe,yqf,zkQ ha hkL,ha.some hkL,hkL,hkL2,yqj,yqk,implies_true,true_and,and_true,and_self]
   refine zAY (by kernel_rfl) ?_
   refine Wk ?_
   refine zc9 rfl (fun hq3=>?_) (fun hq3=>?_)
   ·refine Wk ?_
    rw [zGo hgo (by rw [hA];exact of_decide_eq_true hq3) hlt]
    rfl
   ·have hgo2:=zGp hgo (by rw [hA];exact of_decide_eq_false hq3)
    rw [hA] at hgo2
    refine Wk ?_
    refine ⟨(k+1,IntKind.i64.wrap (z+zFc (Con.con x) (Con.con a.l[k]))),⟨hlt,hgo2⟩,by simp only;omega,?_⟩
    refine Evs ?_
    exact zjA (zjz hlt (by omega))
  have hq:=ne_of_beq_false hq
  refine Wk ?_
  refine zc9 rfl (fun hq2=>?_) (fun hq2=>?_)
  ·have hq2:=of_decide_eq_true hq2
   obtain ⟨_,hn1⟩:=hmi k hlt
   have hn1:m.l[k] < (a.l.length:Int):=by omega
   have hn0:(0:Int)≤m.l[k]:=by omega
   have hnL:m.l[k].toNat < a.l.length:=by omega
   have hA:zGi (Con.con x.chart) x.regime (zGl (Con.con x) a.l) k (m.l.getD k 0)=zFt (Con.con x) (Con.con a.l[k]) (Con.con a.l[m.l[k].toNat]):=by rw [zGi,hmk,if_neg hq,if_pos hq2,zGt hkL,zGt hnL];rfl
   refine Wk ?_
   refine zAZ rfl ?_
   refine zAS [0,1,2,5,6,3,7,4,8] rfl (by kernel_rfl) ?_
   simp (maxSteps:=2000000) only [go_sem,yqa,yqb,yqc,yqd,yqe,yqf,zkQ ha hkL,ha.some hkL,hkL,hkL2,zkQ ha hnL,ha.some hnL,hnL,hn0,hn1,yqj,yqk,implies_true,true_and,and_true,and_self]
   refine zAX 9 0 [] rfl (by kernel_rfl) (by kernel_rfl) (by kernel_rfl) rfl ?_
   simp (maxSteps:=2000000) only [go_sem,yqa,yqb,yqc,yqd,yqe,yqf,zkQ ha hkL,ha.some hkL,hkL,hkL2,zkQ ha hnL,ha.some hnL,hnL,hn0,hn1,yqj,yqk,implies_true,true_and,and_true,and_self]
   refine zhE (fun _=>zFD x a.l[k] a.l[m.l[k].toNat] _ hx (ha.el hkL) (ha.el hnL)) ?_
   simp (maxSteps:=2000000) only [go_sem,yqa,yqb,yqc,yqd,yqe,yqf,zkQ ha hkL,ha.some hkL,hkL,hkL2,zkQ ha hnL,ha.some hnL,hnL,hn0,hn1,yqj,yqk,implies_true,true_and,and_true,and_self]
   refine zAS [10] rfl (by kernel_rfl) ?_
   simp (maxSteps:=2000000) only [go_sem,yqa,yqb,yqc,yqd,yqe,yqf,zkQ ha hkL,ha.some hkL,hkL,hkL2,zkQ ha hnL,ha.some hnL,hnL,hn0,hn1,yqj,yqk,implies_true,true_and,and_true,and_self]
   refine zAY (by kernel_rfl) ?_
   refine Wk ?_
   refine zc9 rfl (fun hq3=>?_) (fun hq3=>?_)
   ·refine Wk ?_
    rw [zGo hgo (by rw [hA];exact of_decide_eq_true hq3) hlt]
    rfl
   ·have hgo2:=zGp hgo (by rw [hA];exact of_decide_eq_false hq3)
    rw [hA] at hgo2
    refine Wk ?_
    refine ⟨(k+1,IntKind.i64.wrap (z+zFt (Con.con x) (Con.con a.l[k]) (Con.con a.l[m.l[k].toNat]))),⟨hlt,hgo2⟩,by simp only;omega,?_⟩
    refine Evs ?_
    exact zjA (zjz hlt (by omega))
  ·have hq2:=of_decide_eq_false hq2
   have hA:zGi (Con.con x.chart) x.regime (zGl (Con.con x) a.l) k (m.l.getD k 0)=0:=by rw [zGi,hmk,if_neg hq,if_neg hq2]
   refine Wk ?_
   refine zc9 rfl (fun hq3=>?_) (fun hq3=>?_)
   ·refine Wk ?_
    rw [zGo hgo (by rw [hA];exact of_decide_eq_true hq3) hlt]
    rfl
   ·have hgo2:=zGp hgo (by rw [hA];exact of_decide_eq_false hq3)
    rw [hA] at hgo2
    refine Wk ?_
    refine ⟨(k+1,IntKind.i64.wrap (z+0)),⟨hlt,hgo2⟩,by simp only;omega,?_⟩
    refine Evs ?_
    exact zjA (zjz hlt (by omega))
 ·have hge:=zjH hd
  obtain rfl:k=m.l.length:=by omega
  refine Wk ?_
  rw [hgo]
  rfl
end Go.Proofs.YtbkaaakphpbmiaaGreat
namespace Go.Proofs.YtbkaaakphpbmiaaGreat
open Go Go.SL
set_option maxHeartbeats 1000000
theorem zMB {P:Nat→Prop} (h:∃ n,P n):∃ n,P n∧∀ m,P m→n≤m:=by
 classical
 obtain ⟨n,hn⟩:=h
 induction n using Nat.strongRecOn with
 | _ n ih =>
  by_cases hc:∃ m,m < n∧P m
  ·obtain ⟨m,hm,hp⟩:=hc;exact ih m hm hp
  ·exact ⟨n,hn,fun m hm=>Nat.le_of_not_lt fun hlt=>hc ⟨m,hlt,hm⟩⟩
theorem zMC {both:Nat→Nat→Bool} {n:Nat}:∃ w k,zLE both n=some (w,k)∧CovOn both (fun i=>i < n) k∧(∀ j,CovOn both (fun i=>i < n) j→k≤j)∧k≤n:=by
 obtain ⟨k,h1,h2⟩:=zMB (P:=fun k=>CovOn both (fun i=>i < n) k) ⟨n,CovOn.id fun i hi=>hi⟩
 obtain ⟨w,hw⟩:=Option.isSome_iff_exists.1 (zLH.2 h1)
 have hm:k≤n:=h2 n (CovOn.id fun i hi=>hi)
 refine ⟨w,k,zLI (fun j hj=>?_) hw hm,h1,h2,hm⟩
 cases hh:zJh both j n [] with
 | none=>rfl
 | some w' =>
  have:=h2 j (zLH.1 (by rw [hh];rfl))
  omega
theorem zMD {p:Int} {m:List Int} {l:List DDuty} (h:zLF p m l=true):0≤(zLG p m l).2.1∧(zLG p m l).2.1≤l.length∧∀ k:Int,(zLG p m l).2.1≤k ↔ 0≤k∧CovOn (zLD p m l) (fun i=>i < l.length) k.toNat:=by
 obtain ⟨w,n,h1,h2,h3,h4⟩:=zMC (both:=zLD p m l) (n:=l.length)
 rw [zLO h h1]
 refine ⟨yqk _,by simp only;omega,fun k=>⟨fun hk=>?_,fun hk=>?_⟩⟩
 ·simp only at hk
  exact ⟨by omega,h2.mono (by omega)⟩
 ·have:=h3 _ hk.2
  simp only;omega
def zME (p:Int) (m:List Int) (l:List DDuty) (k:Int):Bool:=decide ((l.length:Int)≤k) || decide ((zLG p m l).2.1≤k)
theorem zMF {p:Int} {m:List Int} {l:List DDuty} {k:Int} (h:zLF p m l=true):zME p m l k=In (zLG p m l).2.1 0 k:=by
 obtain ⟨h1,h2,_⟩:=zMD h
 rw [zME,In,Bool.eq_iff_iff]
 simp only [yqh,yqi,decide_eq_true_eq]
 omega
theorem zMG {l l2:List DDuty} (h:zKp (l ++ l2)=true):zKp l=true:=by
 rw [zKp,yqi,decide_eq_true_eq,List.all_eq_true] at h ⊢
 rw [List.length_append] at h
 exact ⟨by omega,fun x hx=>h.2 x (List.mem_append_left _ hx)⟩
theorem zMH {p:Int} {m:List Int} {l l2:List DDuty} {k:Int} (hp:In p 0 2880=true) (hm:zzg m=true) (hd:zKp (l ++ l2)=true) (h:zME p m (l ++ l2) k=true):zME p m l k=true:=by
 have c1:zLF p m (l ++ l2)=true:=by rw [zLF,hd,hp,hm];rfl
 have c2:zLF p m l=true:=by rw [zLF,zMG hd,hp,hm];rfl
 rw [zMF c1,In,yqi,decide_eq_true_eq,decide_eq_true_eq] at h
 obtain ⟨a1,a2,a3⟩:=zMD c1
 obtain ⟨b1,b2,b3⟩:=zMD c2
 obtain ⟨h0,g,g1,g2⟩:=(a3 k).1 h.2
 rw [zMF c2,In,yqi,decide_eq_true_eq,decide_eq_true_eq]
 refine ⟨b1,(b3 k).2 ⟨h0,g,fun i hi=>g1 i (by rw [List.length_append];omega),fun i j hi hj hji he=>?_⟩⟩
 have:=g2 i j (by rw [List.length_append];omega) (by rw [List.length_append];omega) hji he
 rw [zLD] at this ⊢
 rw [List.getD_eq_getElem?_getD,List.getD_eq_getElem?_getD,List.getElem?_append_left hi,List.getElem?_append_left hj] at this
 rw [List.getD_eq_getElem?_getD,List.getD_eq_getElem?_getD];exact this
def pilD (c:PChart) (l:List POption):List DDuty:=(l.filter fun o=>decide (0 < o.pas.length)).map fun o=>zJy c (o.pas.getD 0 dQ) (o.pas.getD (o.pas.length - 1) dQ)
def zMI (x:PHarbour) (l:List POption):Bool:=match zJH x.chart x.fleet (l.flatMap (·.pas)) with
 | none=>false
 | some d=>zME 0 x.crew.moves d x.crew.tugs && zME x.crew.rest x.crew.moves (pilD x.chart l) x.crew.pilots
theorem zMJ {c:PChart} {f:List DShip}:∀ {l:List POption},(∀ o ∈ l,zMn c f o.pas)→pilL c f (l.map (·.pas))=pilD c l
 | [],_=>rfl
 | o :: l,h=>by
  obtain ⟨h1,h2,h3⟩:=h o (List.mem_cons_self ..)
  have ih:=zMJ (l:=l) fun y hy=>h y (List.mem_cons_of_mem _ hy)
  rw [pilL,pilD] at ih ⊢
  rw [List.map_cons,List.filter_cons_of_pos (by simpa using h1),List.filter_cons_of_pos (by simpa using h1),List.map_cons,List.map_cons,ih,zJB h1 h2 h3]
theorem zMK {c:PChart} {f:List DShip} {l:List POption} (h:∀ o ∈ l,zMn c f o.pas):zL5 c f (l.map (·.pas)):=fun x hx _=>by
 obtain ⟨o,ho,rfl⟩:=List.mem_map.1 hx
 obtain ⟨h1,h2,h3⟩:=h o ho
 rw [zJB h1 h2 h3]
theorem zML {c:PChart} {l:List POption}:(pilD c l).length≤l.length:=by
 rw [pilD,List.length_map];exact List.length_filter_le _ _
theorem zMM {c:PChart} {f:List DShip} {l:List POption} (h:∀ o ∈ l,zMn c f o.pas) (h12:l.length≤12):zKp (pilD c l)=true:=by
 rw [← zMJ h]
 refine zMa (zMK h) ?_
 rw [zMJ h]
 exact Nat.le_trans zML h12
theorem zMN {x:PHarbour} {l:List POption} (hw:zzh x.crew=true) (h:∀ o ∈ l,zMn x.chart x.fleet o.pas) (h12:l.length≤12):zL7 x.crew x.chart x.fleet (l.map (·.pas))=zMI x l:=by
 obtain ⟨hr,ht⟩:=zL2 hw
 have hfl:(l.map (·.pas)).flatten=l.flatMap (·.pas):=(List.flatMap_def ..).symm
 have hd:=zMM h h12
 have hc2:zLF x.crew.rest x.crew.moves (pilD x.chart l)=true:=by rw [zLF,hd,hr,ht];rfl
 rw [zL7,zMI,hfl,zL1]
 cases hq:zJH x.chart x.fleet (l.flatMap (·.pas)) with
 | none=>simp [In]
 | some d =>
  have hc1:zLF 0 x.crew.moves d=true:=by rw [zLF,zL0 hq,ht];rfl
  simp only
  rw [if_pos hw,zMF hc1,zMF hc2,zL6,if_pos ⟨hw,zMK h,by rw [zMJ h];exact Nat.le_trans zML h12⟩,zMJ h]
theorem zMO {x:PHarbour} (hw:zzh x.crew=true):zMI x []=true:=by
 have h:zJH x.chart x.fleet []=some []:=by
  rw [zJH,if_pos ⟨fun i hi=>absurd hi (Nat.not_lt_zero _),Nat.zero_le _⟩];rfl
 rw [zzh] at hw
 simp only [In,yqi,decide_eq_true_eq] at hw
 rw [zMI,show ([]:List POption).flatMap (·.pas)=[] from rfl,h]
 simp only [zME,yqi,yqh,decide_eq_true_eq]
 exact ⟨.inl (by simp only [List.length_nil];omega),.inl (by show (([]:List DDuty).length:Int)≤_;simp only [List.length_nil];omega)⟩
theorem zMP {x:PHarbour} {l l2:List POption} (hw:zzh x.crew=true) (hg:∀ o ∈ l ++ l2,zMn x.chart x.fleet o.pas) (h12:(l ++ l2).length≤12) (h:zMI x (l ++ l2)=true):zMI x l=true:=by
 obtain ⟨hr,ht⟩:=zL2 hw
 have hd:=zMM hg h12
 rw [zMI] at h ⊢
 cases hq:zJH x.chart x.fleet ((l ++ l2).flatMap (·.pas)) with
 | none=>rw [hq] at h;cases h
 | some d =>
  rw [hq] at h
  have hdd:=zL0 hq
  simp only [yqi] at h
  rw [zJH] at hq
  split at hq
  ·rename_i hc
   obtain ⟨hc1,hc2⟩:=hc
   obtain rfl:=Option.some.inj hq
   rw [List.flatMap_append] at hc1 hc2 hdd h
   rw [show tugL x.chart x.fleet (l.flatMap (·.pas) ++ l2.flatMap (·.pas))=tugL x.chart x.fleet (l.flatMap (·.pas)) ++ tugL x.chart x.fleet (l2.flatMap (·.pas)) from List.flatMap_append] at hc2 hdd h
   have hs:zJH x.chart x.fleet (l.flatMap (·.pas))=some (tugL x.chart x.fleet (l.flatMap (·.pas))):=by
    have hall:∀ i,i < (l.flatMap (·.pas)).length→pOk x.chart x.fleet (l.flatMap (·.pas)) i=true:=fun i hi=>by
     have:=hc1 i (by rw [List.length_append];omega)
     rw [pOk,List.getD_eq_getElem?_getD,List.getElem?_append_left hi] at this
     rw [pOk,List.getD_eq_getElem?_getD];exact this
    rw [zJH,if_pos ⟨hall,by rw [List.length_append] at hc2;omega⟩]
   rw [hs]
   simp only [yqi]
   have hpd:pilD x.chart (l ++ l2)=pilD x.chart l ++ pilD x.chart l2:=by rw [pilD,List.filter_append,List.map_append];rfl
   rw [hpd] at hd h
   exact ⟨zMH (by decide) ht hdd h.1,zMH hr ht hd h.2⟩
  ·cases hq
theorem zUz {x:PHarbour} {l:List POption} (hw:zzh x.crew=true) (hg:∀ o ∈ l,zMn x.chart x.fleet o.pas) (h12:l.length≤12) (h:zMI x l=true) (k:Nat):zMI x (l.take k)=true:=by
 rw [← List.take_append_drop k l] at hg h h12
 exact zMP hw hg h12 h
theorem zMQ (p q:DPassage):Ov p q=Ov q p:=by rw [Ov,Ov,Int.max_comm,Int.min_comm]
theorem zMR (a b g:Int):zzR a b g=zzR b a g:=by rw [zzR,zzR,Int.max_comm,Int.min_comm]
theorem zMS (c:PChart) (r:DRegime) (p q:DPassage):zzS c r p q=zzS c r q p:=by
 by_cases hc:p.seg=q.seg∧0≤p.seg∧p.seg < c.segments.length
 ·have hc2:q.seg=p.seg∧0≤q.seg∧q.seg < c.segments.length:=⟨hc.1.symm,by rw [← hc.1];exact hc.2⟩
  rw [zzS,zzS,if_neg (not_not_intro hc),if_neg (not_not_intro hc2),zMQ q p,zMR q.start,zMR q.fin,hc.1]
  by_cases hs:p.ship=q.ship
  ·rw [if_pos hs,if_pos hs.symm]
  ·rw [if_neg hs,if_neg (Ne.symm hs)]
   by_cases ht:p.toward=q.toward
   ·rw [if_neg (not_not_intro ht),if_neg (not_not_intro ht.symm)]
    split
    ·rfl
    ·by_cases h4:(p.start < q.start∧q.fin < p.fin)∨(q.start < p.start∧p.fin < q.fin)
     ·rw [if_pos h4,if_pos h4.symm]
     ·rw [if_neg h4,if_neg fun h=>h4 h.symm]
   ·rw [if_pos ht,if_pos (Ne.symm ht)]
 ·have hc2:¬ (q.seg=p.seg∧0≤q.seg∧q.seg < c.segments.length):=fun h=>hc ⟨h.1.symm,by rw [← h.1];exact h.2⟩
  rw [zzS,zzS,if_pos hc,if_pos hc2]
theorem zMT (c:PChart) (r:DRegime) (a b:List DPassage):zzT c r a b=zzT c r b a:=by
 rw [Bool.eq_iff_iff]
 simp only [zzT,List.any_eq_true,decide_eq_true_eq]
 constructor
 ·rintro ⟨p,hp,q,hq,h⟩;exact ⟨q,hq,p,hp,by rw [zMS];exact h⟩
 ·rintro ⟨p,hp,q,hq,h⟩;exact ⟨q,hq,p,hp,by rw [zMS];exact h⟩
def zMU (x:PHarbour) (l:List POption) (o:POption):Bool:=!(l.any fun p=>zzT x.chart x.regime p.pas o.pas)
def zMV (x:PHarbour) (l:List POption) (o:POption):Bool:=zMU x l o && zMI x (l ++ [o])
def ipAt (x:PHarbour) (calls:List DCall) (l:List POption) (i:Nat):Bool:=zHW x (calls.getD i dC) (l.getD i zEN) && zMV x (l.take i) (l.getD i zEN)
def zUA (x:PHarbour) (calls:List DCall) (l:List POption):Bool:=zzI x calls && decide (l.length=calls.length) && decide (∀ i,i < calls.length→ipAt x calls l i=true)
def zUB (x:PHarbour) (l:List POption) (i:Nat):Bool:=!((l.take i).any fun p=>zzT x.chart x.regime (l.getD i zEN).pas p.pas)
noncomputable def zUC (x:PHarbour) (l:List POption):Bool:=decide (∀ i,i < l.length→zUB x l i=true) && zL7 x.crew x.chart x.fleet (zMw l)
noncomputable def zUD (x:PHarbour) (calls:List DCall) (l:List POption):Bool:=zzI x calls && decide (l.length=calls.length) && decide (∀ i,i < l.length→zHW x (calls.getD i dC) (l.getD i zEN)=true) && zUC x l
theorem zUE {x:PHarbour} {l:List POption} {i:Nat}:zUB x l i=zMU x (l.take i) (l.getD i zEN):=by
 rw [zUB,zMU]
 congr 2
 funext p
 exact zMT ..
theorem zUF {l:List POption} {i:Nat} (hi:i < l.length):l.take i ++ [l.getD i zEN]=l.take (i+1):=by
 rw [List.take_succ_eq_append_getElem hi,List.getD_eq_getElem?_getD,List.getElem?_eq_getElem hi];rfl
theorem zMW {x:PHarbour} {calls:List DCall} (h:zzI x calls=true):zzh x.crew=true:=by
 rw [zzI,zzi,yqi,yqi,yqi] at h
 exact h.1.1.2
theorem zUG (x:DHarbour) (calls:List DCall) (l:List POption):zUD (Con.con x) calls l=zUA (Con.con x) calls l:=by
 rw [zUD,zUA]
 cases hc:zzI (Con.con x) calls with
 | false=>rfl
 | true =>
  by_cases hl:l.length=calls.length
  ·have hw:=zMW hc
   have h6:=zGx hc
   have hf:(Con.con x).fleet=x.fleet.l:=zyV _
   rw [Bool.eq_iff_iff,zUC]
   simp only [yqi,decide_eq_true_eq,Bool.true_and,hl,true_and]
   have good:(∀ i,i < calls.length→zHW (Con.con x) (calls.getD i dC) (l.getD i zEN)=true)→∀ o ∈ l,zMn (Con.con x).chart (Con.con x).fleet o.pas:=fun h o ho=>by
    obtain ⟨i,hi,rfl⟩:=List.getElem_of_mem ho
    have:=h i (by omega)
    rw [show l.getD i zEN=l[i] by rw [List.getD_eq_getElem?_getD,List.getElem?_eq_getElem hi];rfl] at this
    rw [hf];exact zUy this
   constructor
   ·rintro ⟨h1,h2,h3⟩ i hi
    have hg:=good h1
    rw [show zMw l=l.map (·.pas) from rfl,zMN hw hg (by omega)] at h3
    rw [ipAt,zMV,yqi,yqi,← zUE,zUF (by omega)]
    exact ⟨h1 i hi,h2 i hi,zUz hw hg (by omega) h3 _⟩
   ·intro h
    have h1:∀ i,i < calls.length→zHW (Con.con x) (calls.getD i dC) (l.getD i zEN)=true:=fun i hi=>by
     have:=h i hi
     rw [ipAt,yqi] at this;exact this.1
    have h2:∀ i,i < calls.length→zUB (Con.con x) l i=true∧zMI (Con.con x) (l.take (i+1))=true:=fun i hi=>by
     have:=h i hi
     rw [ipAt,zMV,yqi,yqi,← zUE,zUF (by omega)] at this;exact this.2
    refine ⟨h1,fun i hi=>(h2 i hi).1,?_⟩
    rw [show zMw l=l.map (·.pas) from rfl,zMN hw (good h1) (by omega)]
    rcases Nat.eq_zero_or_pos l.length with h0|h0
    ·rw [List.eq_nil_of_length_eq_zero h0];exact zMO hw
    ·have:=(h2 (l.length - 1) (by omega)).2
     rwa [show l.length - 1+1=l.length by omega,List.take_length] at this
  ·rw [show decide (l.length=calls.length)=false from decide_eq_false hl];rfl
end Go.Proofs.YtbkaaakphpbmiaaGreat
namespace Go.Proofs.YtbkaaakphpbmiaaGreat
open Go Go.SL
set_option maxHeartbeats 1000000
theorem zNi (p:Int) (m:Sl Int) (d:Sl DDuty) (k:Int) (h:Hp) (hm:m.Ok h) (hd:d.Ok h):Ct Tryz.prog 263 [.int .i64 p,m.val,d.val,.int .i64 k] h fun v h'=>v=.bool (zME p m.l d.l k)∧h'=h:=by
 have hl:=hd.max
 refine Ct.forget ?_
 refine zdm (fun A W=>by simp) Tryz.func263 rfl rfl (by simp) fun W0=>?_
 refine Wk ?_
 refine zc9 rfl (fun hq=>?_) (fun hq=>?_)
 ·refine Wk ?_
  rw [zME,decide_eq_true (of_decide_eq_true hq)];rfl
 ·refine Wk ?_
  refine zko (zLT p m d _ hm hd) rfl ?_
  rintro v h2 le2 ⟨s2,rfl,e2,ok2,m2⟩
  refine Wk ?_
  rw [zME,decide_eq_false (p:=(d.l.length:Int)≤k) (of_decide_eq_false hq),Bool.false_or];rfl
theorem zNj (a:Sl DOption) (h:Hp) (ha:a.Ok h) (hz:a.l.length≤1048576):Ct Tryz.prog 210 [a.val] h fun v h'=>∃ s:Sl DOption,v=s.val∧s.l=a.l∧RowAt 84 h' s∧∀ g,s.a=some ⟨g,0,none⟩→h g=none:=by
 have hall:=ha.all (by decide)
 have hd:(h.ldL a.val 4).isSome=true:=by rw [show h.ldL a.val 4=_ from hall];rfl
 refine zdm (fun A W=>by simp) Tryz.func210 rfl rfl (by simp) fun W0=>?_
 repeat' first|refine zid rfl ?_|refine zc4 rfl ?_|refine zc7 ?_|refine zc8 ?_|refine zc5 ?_|refine zc6 ?_|(simp (maxSteps:=2000000) only [go_sem,yqa,yqb,yqc,yqd,yqe,yqf,hall,show h.ldL a.val 4=some (a.l.flatMap Enc.enc) from hall,Option.isSome_some,Option.getD_some];try rfl)|refine zc3 ?_|(refine And.intro ?_ ?_;focus (intros;simp_all only [yqg,yqh,yqi,and_self,true_and,and_true];done))
 refine ⟨by simp only [maxLen];omega,by omega,?_⟩
 repeat' first|refine zid rfl ?_|refine zc4 rfl ?_|refine zc7 ?_|refine zc8 ?_|refine zc5 ?_|refine zc6 ?_|(simp (maxSteps:=2000000) only [go_sem,yqa,yqb,yqc,yqd,yqe,yqf,hall,show h.ldL a.val 4=some (a.l.flatMap Enc.enc) from hall,Option.isSome_some,Option.getD_some];try rfl)|refine zc3 ?_|(refine And.intro ?_ ?_;focus (intros;simp_all only [yqg,yqh,yqi,and_self,true_and,and_true];done))
 refine ⟨fun u hu=>by obtain ⟨x,_,hx⟩:=List.mem_flatMap.1 hu;exact Enc.one x u hx,by simp only [maxLen];omega,by omega,?_⟩
 refine zCu 1 a.l rfl rfl (Nat.zero_add _) rfl fun s h' e1 R f1 l1 k1=>?_
 refine Wk ?_
 exact ⟨s,rfl,e1,R,f1⟩
theorem zNk {l:List DOption}:(l.map (Con.con (α:=DOption))).flatMap (·.pas)=l.flatMap (·.pas.l):=by
 rw [List.flatMap_map,List.flatMap_def,List.flatMap_def]
 exact congrArg List.flatten (List.map_congr_left fun o _=>zDq _)
theorem zNl {o:DOption}:(Con.con o).pas=o.pas.l:=zDq _
theorem zNm {c:PChart} {l:List POption} {o:POption} (h:0 < o.pas.length):pilD c (l ++ [o])=pilD c l ++ [zJy c (o.pas.getD 0 dQ) (o.pas.getD (o.pas.length - 1) dQ)]:=by
 rw [pilD,List.filter_append,List.map_append]
 simp [pilD,h]
theorem zNn {c:DChart} {l:List DOption} {h:Hp} {f:List DShip} (hc:Enc.ok h c) (hl:∀ o ∈ l,Enc.ok h o) (hg:∀ o ∈ l,zMn (Con.con c) f o.pas.l):∀ d ∈ pilD (Con.con c) (l.map Con.con),Enc.ok h d:=fun d hd=>by
 obtain ⟨y,hy,rfl⟩:=List.mem_map.1 hd
 obtain ⟨o,ho,rfl⟩:=List.mem_map.1 (List.mem_filter.1 hy).1
 obtain ⟨h1,h2,h3⟩:=hg o ho
 have:=zJF (f:=f) (h2:=h) hc (hl o ho).2.2.2
 rw [zDq,zJB h1 h2 h3] at this
 rw [zNl]
 exact this
set_option maxRecDepth 30000 in
theorem zNo (x:DHarbour) (a:Sl DOption) (h:Hp) (hx:Enc.ok h x) (ha:a.Ok h) (hg:∀ o ∈ a.l,zMn (Con.con x.chart) x.fleet.l o.pas.l) (hz:(a.l.flatMap (·.pas.l)).length≤1048576) (hz2:a.l.length≤1048576):Ct Tryz.prog 209 [x.v,a.val] h fun v h'=>v=.bool (zMI (Con.con x) (a.l.map Con.con))∧h'=h:=by
 have hl:=ha.max
 refine Ct.forget ?_
 refine zdm (fun A W=>by simp) Tryz.func209 rfl rfl (by simp) fun W0=>?_
 refine Wk ?_
 refine zm6 (ι:=Nat) (fun k=>⟨[(2,true,.c (.p 0 0)),(4,true,.c (.v (.bool false))),(5,true,.c (.s 1)),(6,true,.c (.s 2)),(13,true,.c (.v a.val)),(14,true,.c (.v (.int .i64 a.l.length))),(15,true,.c (.v (.int .i64 k)))],[(0,.box 62 [.v (.int .i64 x.forecast.tide.mean),.v x.forecast.tide.parts.val,.v x.forecast.surges.val,.v x.chart.points.val,.v x.chart.segments.val,.v x.fleet.val,.v (.int .i64 x.regime.gap),.v (.bool x.regime.noMeet),.v (.int .i64 x.crew.tugs),.v (.int .i64 x.crew.pilots),.v (.int .i64 x.crew.rest),.v x.crew.moves.val]),(1,.row 222 5 ((a.l.take k).flatMap (·.pas.l)).length (((a.l.take k).flatMap (·.pas.l)).flatMap Enc.enc)),(2,.row 303 4 (pilD (Con.con x.chart) ((a.l.take k).map Con.con)).length ((pilD (Con.con x.chart) ((a.l.take k).map Con.con)).flatMap Enc.enc))],h,3⟩) (fun k=>k≤a.l.length) (fun k=>a.l.length - k) 0 (Nat.zero_le _) [0,1,2] ?_ ?_
 ·refine Evs ?_
  repeat' first|exact rfl|exact trivial|assumption|decide|refine And.intro ?_ ?_
 intro k hk
 refine Wk ?_
 refine zc9 rfl (fun hd=>?_) (fun hd=>?_)
 ·have hlt:=zjG hd
  have hok:=ha.el hlt
  have hop:a.l[k].pas.Ok h:=hok.2.2.2
  have hall:h.ldL a.l[k].pas.val 5=some (a.l[k].pas.l.flatMap Enc.enc):=Sl.Ok.all hop (by decide)
  have hfl:(a.l.take (k+1)).flatMap (·.pas.l)=(a.l.take k).flatMap (·.pas.l) ++ a.l[k].pas.l:=by rw [List.take_succ_eq_append_getElem hlt,List.flatMap_append];simp
  have hle:((a.l.take (k+1)).flatMap (·.pas.l)).length≤(a.l.flatMap (·.pas.l)).length:=by
   rw [← List.take_append_drop (k+1) a.l,List.flatMap_append,List.take_append_drop,List.length_append];omega
  rw [hfl,List.length_append] at hle
  obtain ⟨h0,hC,hP⟩:=hg _ (List.getElem_mem hlt)
  have hpm:=hop.max
  have hpl:=zML (c:=Con.con x.chart) (l:=(a.l.take k).map Con.con)
  rw [List.length_map,List.length_take] at hpl
  repeat' first|refine zid rfl ?_|refine zc4 rfl ?_|refine zc7 ?_|refine zc8 ?_|refine zc5 ?_|refine zc6 ?_|(simp (maxSteps:=2000000) only [go_sem,yqa,yqb,yqc,yqd,yqe,yqf,zkW ha hlt,ha.some hlt,hlt,yqj];try rfl)|refine zc3 ?_|(refine And.intro ?_ ?_;focus (intros;simp_all only [yqg,yqh,yqi,and_self,true_and,and_true];done))
  simp only [hall,Option.isSome_some,Option.getD_some,← hfl,← List.flatMap_append,← List.length_append]
  refine ⟨trivial,fun u hu=>zH6 hu,by simp only [maxLen];rw [hfl,List.length_append];omega,by rw [hfl,List.length_append];omega,?_⟩
  refine Wk ?_
  refine zc9 rfl (fun hq=>?_) (fun hq=>?_)
  case refine_2=>exact absurd (of_decide_eq_false hq) (by omega)
  have hn1:a.l[k].pas.l.length - 1 < a.l[k].pas.l.length:=by omega
  have hwn:IntKind.i64.wrap ((a.l[k].pas.l.length:Int) - 1)=((a.l[k].pas.l.length - 1:Nat):Int):=by rw [zjy (by omega)];omega
  obtain ⟨g1,g2⟩:=zJC hC h0
  obtain ⟨g3,g4⟩:=zJC hC hn1
  have h0i:(0:Int) < a.l[k].pas.l.length:=by omega
  have ha0:=Sl.Ok.some hop h0
  have hs0:=zkS hop h0
  have hs1:=zmU hop h0
  simp only [go_sem,Nat.zero_mul] at hs0 hs1
  refine Wk ?_
  refine zAZ rfl ?_
  refine zAS [0,1,3,7,9,2,4,8,10,5,11,6,12,13,14] rfl (by kernel_rfl) ?_
  simp (maxSteps:=2000000) only [go_sem,yqa,yqb,yqc,yqd,yqe,yqf,ha0,hs0,hs1,h0i,Int.toNat_zero,Nat.zero_mul,Int.le_refl,implies_true,true_and,and_true,zkS hop hn1,Sl.Ok.some hop hn1,hn1,yqj,hwn,zkW ha hlt,ha.some hlt,hlt]
  refine zAX 15 0 [] rfl (by kernel_rfl) (by kernel_rfl) (by kernel_rfl) rfl ?_
  simp (maxSteps:=2000000) only [go_sem,yqa,yqb,yqc,yqd,yqe,yqf,ha0,hs0,hs1,h0i,Int.toNat_zero,Nat.zero_mul,Int.le_refl,implies_true,true_and,and_true,zkS hop hn1,Sl.Ok.some hop hn1,hn1,yqj,hwn,zkW ha hlt,ha.some hlt,hlt]
  refine zhE (fun _=>zJD x.chart _ _ _ hx.2.1 g1 g2 g3 g4) ?_
  simp (maxSteps:=2000000) only [go_sem,yqa,yqb,yqc,yqd,yqe,yqf,ha0,hs0,hs1,h0i,Int.toNat_zero,Nat.zero_mul,Int.le_refl,implies_true,true_and,and_true,zkS hop hn1,Sl.Ok.some hop hn1,hn1,yqj,hwn,zkW ha hlt,ha.some hlt,hlt]
  refine zAX 16 0 [] rfl (by kernel_rfl) (by kernel_rfl) (by kernel_rfl) rfl ?_
  simp (maxSteps:=2000000) only [go_sem,yqa,yqb,yqc,yqd,yqe,yqf,ha0,hs0,hs1,h0i,Int.toNat_zero,Nat.zero_mul,Int.le_refl,implies_true,true_and,and_true,zkS hop hn1,Sl.Ok.some hop hn1,hn1,yqj,hwn,zkW ha hlt,ha.some hlt,hlt]
  refine zAX 17 0 [] rfl (by kernel_rfl) (by kernel_rfl) (by kernel_rfl) rfl ?_
  simp (maxSteps:=2000000) only [go_sem,yqa,yqb,yqc,yqd,yqe,yqf,ha0,hs0,hs1,h0i,Int.toNat_zero,Nat.zero_mul,Int.le_refl,implies_true,true_and,and_true,zkS hop hn1,Sl.Ok.some hop hn1,hn1,yqj,hwn,zkW ha hlt,ha.some hlt,hlt]
  refine ⟨by simp only [maxLen];omega,by omega,?_⟩
  refine zAS [18] rfl (by kernel_rfl) ?_
  simp (maxSteps:=2000000) only [go_sem,yqa,yqb,yqc,yqd,yqe,yqf,ha0,hs0,hs1,h0i,Int.toNat_zero,Nat.zero_mul,Int.le_refl,implies_true,true_and,and_true,zkS hop hn1,Sl.Ok.some hop hn1,hn1,yqj,hwn,zkW ha hlt,ha.some hlt,hlt]
  refine zAY (by kernel_rfl) ?_
  refine Wk ?_
  have hpd:pilD (Con.con x.chart) ((a.l.take (k+1)).map Con.con)=pilD (Con.con x.chart) ((a.l.take k).map Con.con) ++ [zJy (Con.con x.chart) a.l[k].pas.l[0] a.l[k].pas.l[a.l[k].pas.l.length - 1]]:=by
   rw [List.take_succ_eq_append_getElem hlt,List.map_append,List.map_cons,List.map_nil,zNm (by rw [zNl];exact h0),zNl]
   simp [List.getD_eq_getElem?_getD,h0,hn1]
  refine ⟨k+1,[0,4,6],hlt,by omega,?_⟩
  refine Evs ?_
  rw [hpd,List.flatMap_append,List.length_append]
  repeat' first|exact zjA (zjz hlt (by omega))|exact rfl|exact trivial|assumption|decide|refine And.intro ?_ ?_
 ·have hge:=zjH hd
  have hke:k=a.l.length:=by omega
  rw [hke,List.take_length]
  refine zc6 ?_
  refine Evs ?_
  refine zl1 1 (a.l.flatMap (·.pas.l)) rfl rfl rfl rfl (by decide) (fun y hy=>?_) h (Hp.le_refl _) (Mines.flat (fun _=>rfl) (fun _=>trivial)) fun s h' e1 e2 e3 e4=>?_
  ·obtain ⟨z,hz,hy⟩:=List.mem_flatMap.1 hy
   exact (ha.2.2.2.1 z hz).2.2.2.2.2.2.1 y hy
  have hx1:Enc.ok h' x:=Enc.mono e3 hx
  refine zl1 2 (pilD (Con.con x.chart) (a.l.map Con.con)) rfl rfl rfl rfl (by decide) (zNn hx1.2.1 (fun o ho=>Enc.mono e3 (ha.2.2.2.1 o ho)) hg) h e3 (Mines.flat (fun _=>rfl) (fun _=>trivial)) fun d h2 d1 d2 d3 d4=>?_
  have hx2:Enc.ok h2 x:=Enc.mono d3 hx1
  refine Wk ?_
  refine zko (zJR x.chart x.fleet s _ hx2.2.1 hx2.2.2.1 (e2.mono d3)) rfl ?_
  rintro v h3 le3 ⟨t,rfl,et,okt,mt⟩
  have hx3:Enc.ok h3 x:=Enc.mono le3 hx2
  have hfc:zJH (Con.con x).chart (Con.con x).fleet ((a.l.map Con.con).flatMap (·.pas))=zJH (Con.con x.chart) x.fleet.l s.l:=by
   rw [zNk,e1,show (Con.con x).fleet=x.fleet.l from zyV _];rfl
  have hcw:(Con.con x).crew.moves=x.crew.moves.l:=zL3 x.crew
  have okd:=d2.mono le3
  rw [zMI,hfc,hcw]
  cases htd:zJH (Con.con x.chart) x.fleet.l s.l with
  | none =>
   refine Evs ?_
   refine Wk ?_
   refine zhE (V:=.bool false) (fun e=>by cases e) ?_
   refine Evs ?_
   refine Wk ?_
   refine zhE (V:=.bool false) (fun e=>by cases e) ?_
   refine Evs ?_
   exact Wk0
  | some dl =>
   rw [htd] at et
   have et:t.l=dl:=et
   refine Evs ?_
   refine Wk ?_
   refine zhE (fun _=>zNi 0 x.crew.moves t x.crew.tugs _ hx3.2.2.2.2.2.2.2 okt) ?_
   refine Evs ?_
   refine Wk ?_
   refine zhE (fun _=>zNi x.crew.rest x.crew.moves d x.crew.pilots _ hx3.2.2.2.2.2.2.2 okd) ?_
   refine Evs ?_
   refine Wk ?_
   rw [et,d1];rfl
end Go.Proofs.YtbkaaakphpbmiaaGreat
namespace Go.Proofs.YtbkaaakphpbmiaaGreat
open Go Go.SL
set_option maxHeartbeats 1000000
theorem zNp {x:DHarbour} {l:List DOption} {o:DOption}:zMU (Con.con x) (l.map Con.con) (Con.con o)=!(l.any fun p=>zzT (Con.con x.chart) x.regime p.pas.l o.pas.l):=by
 rw [zMU,List.any_map]
 congr 2
 funext p
 simp only [Function.comp,zNl]
 rfl
theorem zNq {α:Type} {f:α→Bool} {l:List α} {k:Nat} (hk:k < l.length) (h0:(l.take k).any f=false) (h1:f l[k]=false):(l.take (k+1)).any f=false:=by
 rw [zzU hk,h0,h1];rfl
set_option maxRecDepth 30000 in
theorem zNr (x:DHarbour) (a:Sl DOption) (o:DOption) (h:Hp) (hx:Enc.ok h x) (ha:a.Ok h) (ho:Enc.ok h o) (hr:zzf x.regime=true) (hg:∀ p ∈ a.l ++ [o],zMn (Con.con x.chart) x.fleet.l p.pas.l) (hz:((a.l ++ [o]).flatMap (·.pas.l)).length≤1048576) (hz2:a.l.length≤1000):Ct Tryz.prog 130 [x.v,a.val,o.v] h fun v h'=>v=.bool (zMV (Con.con x) (a.l.map Con.con) (Con.con o))∧h'=h:=by
 have hl:=ha.max
 refine Ct.forget ?_
 refine zdm (fun A W=>by simp) Tryz.func130 rfl rfl (by simp) fun W0=>?_
 refine Wk ?_
 refine zm6 (ι:=Nat) (fun k=>⟨[(1,true,.c (.v a.val)),(3,true,.c (.p 0 0)),(5,true,.c (.p 1 0)),(6,true,.c (.v (.bool false))),(9,true,.c (.v a.val)),(10,true,.c (.v (.int .i64 a.l.length))),(11,true,.c (.v (.int .i64 k)))],[(0,.box 62 [.v (.int .i64 x.forecast.tide.mean),.v x.forecast.tide.parts.val,.v x.forecast.surges.val,.v x.chart.points.val,.v x.chart.segments.val,.v x.fleet.val,.v (.int .i64 x.regime.gap),.v (.bool x.regime.noMeet),.v (.int .i64 x.crew.tugs),.v (.int .i64 x.crew.pilots),.v (.int .i64 x.crew.rest),.v x.crew.moves.val]),(1,.box 84 [.v (.int .i64 o.start),.v (.int .i64 o.arr),.v (.int .i64 o.cost),.v o.pas.val])],h,2⟩) (fun k=>k≤a.l.length∧((a.l.take k).any fun p=>zzT (Con.con x.chart) x.regime p.pas.l o.pas.l)=false) (fun k=>a.l.length - k) 0 ⟨Nat.zero_le _,rfl⟩ [0,1] ?_ ?_
 ·refine Evs ?_
  repeat' first|exact rfl|exact trivial|assumption|decide|refine And.intro ?_ ?_
 rintro k ⟨hk,hno⟩
 refine Wk ?_
 refine zc9 rfl (fun hd=>?_) (fun hd=>?_)
 ·have hlt:=zjG hd
  repeat' first|refine zid rfl ?_|refine zc4 rfl ?_|refine zc7 ?_|refine zc8 ?_|refine zc5 ?_|refine zc6 ?_|refine zhE (fun _=>zFq x.chart x.regime a.l[k].pas o.pas _ hx.2.1 hr (ha.el hlt).2.2.2 ho.2.2.2) ?_|(simp (maxSteps:=2000000) only [go_sem,yqa,yqb,yqc,yqd,yqe,yqf,zkW ha hlt,ha.some hlt,hlt,yqj];try rfl)|refine zc3 ?_|(refine And.intro ?_ ?_;focus (intros;simp_all only [yqg,yqh,yqi,and_self,true_and,and_true];done))
  refine zc9 rfl (fun hq=>?_) (fun hq=>?_)
  ·refine Wk ?_
   rw [zMV,zNp,zzV (f:=fun p=>zzT (Con.con x.chart) x.regime p.pas.l o.pas.l) hlt hq]
   rfl
  ·refine Wk ?_
   refine ⟨k+1,[0,1],⟨hlt,zNq hlt hno hq⟩,by omega,?_⟩
   refine Evs ?_
   repeat' first|exact zjA (zjz hlt (by omega))|exact rfl|exact trivial|assumption|decide|refine And.intro ?_ ?_
 ·have hge:=zjH hd
  have hke:k=a.l.length:=by omega
  rw [hke,List.take_length] at hno
  refine zc6 ?_
  refine Evs ?_
  refine zc3 ?_
  refine zAZ rfl ?_
  refine zAS [0,1,3] rfl (by kernel_rfl) ?_
  refine Evs ?_
  refine zDF 2 [4] (by kernel_rfl) ⟨?_,?_,trivial⟩
  ·refine U_br 2 0 [3,0] rfl (by kernel_rfl) (by kernel_rfl) rfl ?_
   refine Evs ?_
   refine zko (zNj a _ ha (by omega)) rfl ?_
   rintro v h1 le1 ⟨q,rfl,eq1,Rq,fq⟩
   refine Evs ?_
   refine zAX 4 0 [0] rfl (by kernel_rfl) (by kernel_rfl) (by kernel_rfl) rfl ?_
   refine Evs ?_
   refine zAX 5 3 [0] rfl (by kernel_rfl) (by kernel_rfl) (by kernel_rfl) rfl ?_
   refine Evs ?_
   refine zCv (s:=q) rfl Rq (fun g hg=>.inl (fq g hg)) ?_
   refine Evs ?_
   refine ⟨rfl,by rw [eq1];simp only [maxLen];omega,by rw [eq1];omega,fun ad cap h2 P=>?_⟩
   have P':Pub (zCt h1 q) 84 (Enc.size DOption) (q.l ++ [o]).length ((q.l ++ [o]).flatMap Enc.enc) ad cap h2:=by
    rw [List.length_append,List.flatMap_append];exact P
   have led:h.le (zCt h1 q):=zJb le1 fq Rq.addr
   have k2:(Sl.mk ad cap (q.l ++ [o])).Ok h2:=Pub.sl (by decide) P' fun y hy=>by
    rcases List.mem_append.1 hy with hy|hy
    ·exact Enc.mono led (ha.2.2.2.1 y (by rw [← eq1];exact hy))
    ·rw [List.mem_singleton.1 hy];exact Enc.mono led ho
   have le2:h.le h2:=Hp.le_trans led P'.le
   rw [show Value.slice ad (q.l.length+1) cap=(Sl.mk ad cap (q.l ++ [o])).val from by simp only [Sl.val,List.length_append,List.length_singleton]]
   try simp (maxSteps:=2000000) only [go_sem,yqa,yqb,yqc,yqd,yqe,yqf]
   refine zAX 6 0 [] rfl (by kernel_rfl) (by kernel_rfl) (by kernel_rfl) rfl ?_
   refine Evs ?_
   refine zhE (fun _=>zNo x ⟨ad,cap,q.l ++ [o]⟩ _ (Enc.mono le2 hx) k2 (by rw [eq1];exact hg) (by rw [eq1];exact hz) (by rw [eq1,List.length_append,List.length_singleton];omega)) ?_
   try simp (maxSteps:=2000000) only [go_sem,yqa,yqb,yqc,yqd,yqe,yqf]
   rw [eq1,List.map_append]
   refine zAS [7] rfl (by kernel_rfl) ?_
   refine Evs ?_
   refine zAY (by kernel_rfl) ?_
   refine Wk ?_
   rw [zMV,zNp,hno]
   rfl
  ·refine U_br 4 0 [0] rfl (by kernel_rfl) (by kernel_rfl) rfl ?_
   refine Evs ?_
   refine zAX 2 0 [0] rfl (by kernel_rfl) (by kernel_rfl) (by kernel_rfl) rfl ?_
   refine Evs ?_
   refine zko (zNj a _ ha (by omega)) rfl ?_
   rintro v h1 le1 ⟨q,rfl,eq1,Rq,fq⟩
   refine Evs ?_
   refine zAX 5 3 [0] rfl (by kernel_rfl) (by kernel_rfl) (by kernel_rfl) rfl ?_
   refine Evs ?_
   refine zCv (s:=q) rfl Rq (fun g hg=>.inl (fq g hg)) ?_
   refine Evs ?_
   refine ⟨rfl,by rw [eq1];simp only [maxLen];omega,by rw [eq1];omega,fun ad cap h2 P=>?_⟩
   have P':Pub (zCt h1 q) 84 (Enc.size DOption) (q.l ++ [o]).length ((q.l ++ [o]).flatMap Enc.enc) ad cap h2:=by
    rw [List.length_append,List.flatMap_append];exact P
   have led:h.le (zCt h1 q):=zJb le1 fq Rq.addr
   have k2:(Sl.mk ad cap (q.l ++ [o])).Ok h2:=Pub.sl (by decide) P' fun y hy=>by
    rcases List.mem_append.1 hy with hy|hy
    ·exact Enc.mono led (ha.2.2.2.1 y (by rw [← eq1];exact hy))
    ·rw [List.mem_singleton.1 hy];exact Enc.mono led ho
   have le2:h.le h2:=Hp.le_trans led P'.le
   rw [show Value.slice ad (q.l.length+1) cap=(Sl.mk ad cap (q.l ++ [o])).val from by simp only [Sl.val,List.length_append,List.length_singleton]]
   try simp (maxSteps:=2000000) only [go_sem,yqa,yqb,yqc,yqd,yqe,yqf]
   refine zAX 6 0 [] rfl (by kernel_rfl) (by kernel_rfl) (by kernel_rfl) rfl ?_
   refine Evs ?_
   refine zhE (fun _=>zNo x ⟨ad,cap,q.l ++ [o]⟩ _ (Enc.mono le2 hx) k2 (by rw [eq1];exact hg) (by rw [eq1];exact hz) (by rw [eq1,List.length_append,List.length_singleton];omega)) ?_
   try simp (maxSteps:=2000000) only [go_sem,yqa,yqb,yqc,yqd,yqe,yqf]
   rw [eq1,List.map_append]
   refine zAS [7] rfl (by kernel_rfl) ?_
   refine Evs ?_
   refine zAY (by kernel_rfl) ?_
   refine Wk ?_
   rw [zMV,zNp,hno]
   rfl
theorem zNs {x:PHarbour} {calls:List DCall} (h:zzI x calls=true):zzf x.regime=true∧zy2 x.chart=true:=by
 rw [zzI,zzi] at h
 simp only [yqi] at h
 exact ⟨h.1.1.1.2,h.1.1.1.1.1.2⟩
theorem zUH {p:Sl DOption} (hz:Sz.sz (Con.con p)≤1048576):(∀ {k:Nat} (hk:k < p.l.length),Sz.sz (Con.con p.l[k])≤1048576)∧(p.l.flatMap (·.pas.l)).length≤1048576:=by
 have hl:(Con.con p).length=p.l.length:=List.length_map ..
 have hs:=znA (l:=Con.con p)
 rw [hs] at hz
 have key:∀ (l:List DOption) (B:Nat),((l.map (Con.con (α:=DOption))).map Sz.sz).sum≤B→(∀ {k:Nat} (hk:k < l.length),Sz.sz (Con.con l[k])≤B)∧(l.flatMap (·.pas.l)).length≤B:=by
  intro l
  induction l with
  | nil=>intro B _;exact ⟨fun {k} hk=>(by cases hk),Nat.zero_le _⟩
  | cons o l ih =>
   intro B hB
   rw [List.map_cons,List.map_cons,List.sum_cons] at hB
   have ho:o.pas.l.length≤Sz.sz (Con.con o):=by
    have h2:Sz.sz (Con.con o)=Sz.sz (Con.con o.pas):=rfl
    have:=zHr (Nat.le_of_eq h2.symm)
    rwa [zHs] at this
   obtain ⟨i1,i2⟩:=ih (B - Sz.sz (Con.con o)) (by omega)
   refine ⟨fun {k} hk=>?_,?_⟩
   ·cases k with
    | zero=>show Sz.sz (Con.con o)≤B;omega
    | succ k =>
     have hk':k < l.length:=by simpa using hk
     have:=i1 hk'
     show Sz.sz (Con.con (l[k]'hk'))≤B
     omega
   ·rw [List.flatMap_cons,List.length_append];omega
 obtain ⟨k1,k2⟩:=key p.l 1048576 (by show (List.map Sz.sz (Con.con p)).sum≤_;omega)
 exact ⟨k1,k2⟩
set_option maxRecDepth 30000 in
theorem zUI (x:DHarbour) (a:Sl DCall) (p:Sl DOption) (h:Hp) (hx:Enc.ok h x) (ha:a.Ok h) (hp:p.Ok h) (hz:Sz.sz (Con.con p)≤1048576):Ct Tryz.prog 54 [x.v,a.val,p.val] h fun v h'=>v=.bool (zUA (Con.con x) (Con.con a) (Con.con p))∧h'=h:=by
 have hla:=ha.max
 have hlp:=hp.max
 obtain ⟨hsz,hsf⟩:=zUH hz
 rw [zzJ,show Con.con p=p.l.map Con.con from rfl,zUA]
 refine Ct.forget ?_
 refine zdm (fun A W=>by simp) Tryz.func54 rfl rfl (by simp) fun W0=>?_
 repeat' first|refine zid rfl ?_|refine zc4 rfl ?_|refine zc7 ?_|refine zc8 ?_|refine zc5 ?_|refine zc6 ?_|refine zhE (fun _=>zzL x a _ hx ha) ?_|(simp (maxSteps:=2000000) only [go_sem,yqa,yqb,yqc,yqd,yqe,yqf];try rfl)|refine zc3 ?_|(refine And.intro ?_ ?_;focus (intros;simp_all only [yqg,yqh,yqi,and_self,true_and,and_true];done))
 rw [zzJ]
 refine zc9 rfl (fun hc=>?_) (fun hc=>?_)
 ·refine Wk ?_
  rcases (yqh _ _).mp hc with h1|h1
  ·rw [Bool.not_eq_true'] at h1;rw [h1];rfl
  ·rw [decide_eq_false (p:=(p.l.map (Con.con (α:=DOption))).length=a.l.length) (by have:=zjC h1;rw [List.length_map];omega),Bool.and_false];rfl
 obtain ⟨hH,h6⟩:=Bool.or_eq_false_iff.1 hc
 rw [Bool.not_eq_false'] at hH
 have hlen:p.l.length=a.l.length:=by have:=zjD h6;omega
 have h6:=zGx hH
 obtain ⟨hR,hC⟩:=zNs hH
 have hR:zzf x.regime=true:=hR
 rw [hH,decide_eq_true (show (p.l.map (Con.con (α:=DOption))).length=a.l.length by rw [List.length_map];exact hlen),Bool.and_self,Bool.true_and]
 refine Wk ?_
 refine zm6 (ι:=Nat) (fun k=>⟨[(2,true,.c (.v p.val)),(3,true,.c (.p 0 0)),(6,true,.c (.v (.bool false))),(20,true,.c (.v a.val)),(21,true,.c (.v (.int .i64 a.l.length))),(22,true,.c (.v (.int .i64 k)))],[(0,.box 62 [.v (.int .i64 x.forecast.tide.mean),.v x.forecast.tide.parts.val,.v x.forecast.surges.val,.v x.chart.points.val,.v x.chart.segments.val,.v x.fleet.val,.v (.int .i64 x.regime.gap),.v (.bool x.regime.noMeet),.v (.int .i64 x.crew.tugs),.v (.int .i64 x.crew.pilots),.v (.int .i64 x.crew.rest),.v x.crew.moves.val])],h,1⟩) (fun k=>k≤a.l.length∧∀ i,i < k→ipAt (Con.con x) a.l (p.l.map Con.con) i=true) (fun k=>a.l.length - k) 0 ⟨Nat.zero_le _,zy7⟩ [0] ?_ ?_
 ·refine Evs ?_
  repeat' first|exact rfl|exact trivial|assumption|decide|refine And.intro ?_ ?_
 rintro k ⟨hk,hip⟩
 refine Wk ?_
 refine zc9 rfl (fun hd=>?_) (fun hd=>?_)
 ·have hlt:=zjG hd
  have hltp:k < p.l.length:=by omega
  have hltpi:(k:Int) < p.l.length:=by omega
  have hpk:k≤p.l.length:=by omega
  have hcap:k≤p.cap:=by have:=hp.1;omega
  have hcapi:(k:Int)≤p.cap:=by omega
  have hfl:(Con.con x).fleet=x.fleet.l:=zyV _
  have hge:a.l.getD k dC=a.l[k]:=cget hlt
  have hgp:(p.l.map (Con.con (α:=DOption))).getD k zEN=Con.con p.l[k]:=by simp [List.getD_eq_getElem?_getD,hltp]
  have htk:(p.to k).l.map (Con.con (α:=DOption))=(p.l.map Con.con).take k:=(show (p.l.take k).map (Con.con (α:=DOption))=_ from List.map_take)
  have good:zHW (Con.con x) (Con.con a.l[k]) (Con.con p.l[k])=true→∀ q ∈ (p.to k).l ++ [p.l[k]],zMn (Con.con x.chart) x.fleet.l q.pas.l:=fun hio q hq=>by
   have key:∀ i,i≤k→∀ hi:i < p.l.length,zMn (Con.con x.chart) x.fleet.l p.l[i].pas.l:=fun i hik hi=>by
    have hai:i < a.l.length:=by omega
    have hgi:(p.l.map (Con.con (α:=DOption))).getD i zEN=Con.con p.l[i]:=by simp [List.getD_eq_getElem?_getD,hi]
    have h9:zHW (Con.con x) a.l[i] (Con.con p.l[i])=true:=by
     rcases Nat.lt_or_ge i k with h8|h8
     ·have:=hip i h8
      rw [ipAt,yqi,hgi,cget hai] at this
      exact this.1
     ·obtain rfl:i=k:=by omega
      exact hio
    have:=zUy h9
    rw [zNl] at this
    exact this
   rcases List.mem_append.1 hq with hq|hq
   ·obtain ⟨i,hi,rfl⟩:=List.getElem_of_mem hq
    have hik:i < k:=by rw [Sl.to_len (by omega)] at hi;exact hi
    rw [Sl.to_get hi (by omega)]
    exact key i (by omega) (by omega)
   ·rw [List.mem_singleton.1 hq];exact key k (Nat.le_refl _) hltp
  have szs:∀ (hk2:k < p.l.length),(((p.to k).l ++ [p.l[k]]).flatMap (·.pas.l)).length≤1048576:=fun hk2=>by
   rw [show (p.to k).l ++ [p.l[k]]=p.l.take (k+1) from (List.take_succ_eq_append_getElem hk2).symm]
   refine Nat.le_trans ?_ hsf
   rw [← List.take_append_drop (k+1) p.l,List.flatMap_append,List.take_append_drop,List.length_append]
   exact Nat.le_add_right _ _
  repeat' first|refine zid rfl ?_|refine zc4 rfl ?_|refine zc7 ?_|refine zc8 ?_|refine zc5 ?_|refine zc6 ?_|(simp (maxSteps:=2000000) only [go_sem,yqa,yqb,yqc,yqd,yqe,yqf,zkQ ha hlt,ha.some hlt,hlt,yqj];try rfl)|refine zc3 ?_|(refine And.intro ?_ ?_;focus (intros;simp_all only [yqg,yqh,yqi,and_self,true_and,and_true];done))
  refine zAZ rfl ?_
  refine zAS [0,1,2,3,4,5] rfl (by kernel_rfl) ?_
  simp (maxSteps:=2000000) only [go_sem,yqa,yqb,yqc,yqd,yqe,yqf,zkQ ha hlt,ha.some hlt,hlt,zkW hp hltp,hp.some hltp,hltp,hltpi,yqj,yqk,Int.toNat_zero,Nat.sub_zero,Nat.zero_mul,zyP,zyQ,ite_self,hcapi,hcap,zyR hpk,implies_true,true_and,and_true,and_self]
  refine zAX 6 0 [] rfl (by kernel_rfl) (by kernel_rfl) (by kernel_rfl) rfl ?_
  simp (maxSteps:=2000000) only [go_sem,yqa,yqb,yqc,yqd,yqe,yqf,zkQ ha hlt,ha.some hlt,hlt,zkW hp hltp,hp.some hltp,hltp,hltpi,yqj,yqk,Int.toNat_zero,Nat.sub_zero,Nat.zero_mul,zyP,zyQ,ite_self,hcapi,hcap,zyR hpk,implies_true,true_and,and_true,and_self]
  refine zhE (fun _=>zHY x a.l[k] p.l[k] _ hx (ha.el hlt) (hp.el hltp) (hsz hltp)) ?_
  simp (maxSteps:=2000000) only [go_sem,yqa,yqb,yqc,yqd,yqe,yqf,zkQ ha hlt,ha.some hlt,hlt,zkW hp hltp,hp.some hltp,hltp,hltpi,yqj,yqk,Int.toNat_zero,Nat.sub_zero,Nat.zero_mul,zyP,zyQ,ite_self,hcapi,hcap,zyR hpk,implies_true,true_and,and_true,and_self]
  refine zAS [7,8,9,10,11,13,14,15,16] rfl (by kernel_rfl) ?_
  simp (maxSteps:=2000000) only [go_sem,yqa,yqb,yqc,yqd,yqe,yqf,zkQ ha hlt,ha.some hlt,hlt,zkW hp hltp,hp.some hltp,hltp,hltpi,yqj,yqk,Int.toNat_zero,Nat.sub_zero,Nat.zero_mul,zyP,zyQ,ite_self,hcapi,hcap,zyR hpk,implies_true,true_and,and_true,and_self]
  refine zAX 12 0 [16,15,9] rfl (by kernel_rfl) (by kernel_rfl) (by kernel_rfl) rfl ?_
  simp (maxSteps:=2000000) only [go_sem,yqa,yqb,yqc,yqd,yqe,yqf,zkQ ha hlt,ha.some hlt,hlt,zkW hp hltp,hp.some hltp,hltp,hltpi,yqj,yqk,Int.toNat_zero,Nat.sub_zero,Nat.zero_mul,zyP,zyQ,ite_self,hcapi,hcap,zyR hpk,implies_true,true_and,and_true,and_self]
  refine zAX 17 0 [] rfl (by kernel_rfl) (by kernel_rfl) (by kernel_rfl) rfl ?_
  simp (maxSteps:=2000000) only [go_sem,yqa,yqb,yqc,yqd,yqe,yqf,zkQ ha hlt,ha.some hlt,hlt,zkW hp hltp,hp.some hltp,hltp,hltpi,yqj,yqk,Int.toNat_zero,Nat.sub_zero,Nat.zero_mul,zyP,zyQ,ite_self,hcapi,hcap,zyR hpk,implies_true,true_and,and_true,and_self]
  refine zhE (fun hio=>zNr x (p.to k) p.l[k] _ hx (Sl.to_ok hp k) (hp.el hltp) hR (good (by simpa using hio)) (szs hltp) (by rw [Sl.to_len (by omega)];omega)) ?_
  simp (maxSteps:=2000000) only [go_sem,yqa,yqb,yqc,yqd,yqe,yqf,zkQ ha hlt,ha.some hlt,hlt,zkW hp hltp,hp.some hltp,hltp,hltpi,yqj,yqk,Int.toNat_zero,Nat.sub_zero,Nat.zero_mul,zyP,zyQ,ite_self,hcapi,hcap,zyR hpk,implies_true,true_and,and_true,and_self]
  refine zAS [18,19] rfl (by kernel_rfl) ?_
  simp (maxSteps:=2000000) only [go_sem,yqa,yqb,yqc,yqd,yqe,yqf,zkQ ha hlt,ha.some hlt,hlt,zkW hp hltp,hp.some hltp,hltp,hltpi,yqj,yqk,Int.toNat_zero,Nat.sub_zero,Nat.zero_mul,zyP,zyQ,ite_self,hcapi,hcap,zyR hpk,implies_true,true_and,and_true,and_self]
  refine zAY (by kernel_rfl) ?_
  have hat:ipAt (Con.con x) a.l (p.l.map Con.con) k=(zHW (Con.con x) (Con.con a.l[k]) (Con.con p.l[k]) && zMV (Con.con x) ((p.to k).l.map Con.con) (Con.con p.l[k])):=by
   rw [ipAt,hge,hgp,htk];rfl
  refine zc9 rfl (fun hq=>?_) (fun hq=>?_)
  ·refine Wk ?_
   have hf:ipAt (Con.con x) a.l (p.l.map Con.con) k=false:=by
    rw [hat]
    rcases (yqh _ _).mp hq with h1|h1
    ·rw [Bool.not_eq_true'] at h1;rw [h1];rfl
    ·rw [Bool.not_eq_true'] at h1;rw [h1,Bool.and_false]
   rw [decide_eq_false fun H=>by rw [H k hlt] at hf;cases hf]
  ·refine Wk ?_
   have hf:ipAt (Con.con x) a.l (p.l.map Con.con) k=true:=by
    rw [hat]
    obtain ⟨h1,h2⟩:=Bool.or_eq_false_iff.1 hq
    rw [Bool.not_eq_false'] at h1 h2
    rw [h1,h2];rfl
   refine ⟨k+1,[0],⟨hlt,fun i hi=>?_⟩,by omega,?_⟩
   ·rcases Nat.lt_succ_iff_lt_or_eq.1 hi with hi|rfl
    ·exact hip i hi
    ·exact hf
   refine Evs ?_
   repeat' first|exact zjA (zjz hlt (by omega))|exact rfl|exact trivial|assumption|decide|refine And.intro ?_ ?_
 ·have hge:=zjH hd
  obtain rfl:k=a.l.length:=by omega
  refine Wk ?_
  rw [decide_eq_true hip]
end Go.Proofs.YtbkaaakphpbmiaaGreat
namespace Go.Proofs.YtbkaaakphpbmiaaGreat
open Go Go.SL
set_option maxHeartbeats 1000000
set_option maxRecDepth 30000 in
theorem zUJ (x:DHarbour) (p:Sl DOption) (h:Hp) (hx:Enc.ok h x) (hp:p.Ok h) (hz:Sz.sz (Con.con p)≤1048576) (hR:zzf x.regime=true) (hC:zy2 (Con.con x.chart)=true):Ct Tryz.prog 129 [x.v,p.val] h fun v h'=>v=.bool (zUC (Con.con x) (Con.con p))∧h'=h:=by
 have hlp:=hp.max
 have hcon:Con.con p=p.l.map (Con.con (α:=DOption)):=rfl
 have hfl:∀ i (hi:i < p.l.length),zUB (Con.con x) (Con.con p) i=!((p.l.take i).any fun q=>zzT (Con.con x.chart) x.regime p.l[i].pas.l q.pas.l):=fun i hi=>by
  rw [zUB,hcon,← List.map_take,List.any_map]
  have hg:(p.l.map (Con.con (α:=DOption))).getD i zEN=Con.con p.l[i]:=by simp [List.getD_eq_getElem?_getD,hi]
  rw [hg]
  congr 2
  funext q
  simp only [Function.comp,zNl]
  rfl
 refine Ct.forget ?_
 refine zdm (fun A W=>by simp) Tryz.func129 rfl rfl (by simp) fun W0=>?_
 refine Wk ?_
 refine zm6 (ι:=Nat) (fun k=>⟨[(1,true,.c (.v p.val)),(2,true,.c (.p 0 0)),(4,true,.c (.v (.bool false))),(9,true,.c (.v p.val)),(10,true,.c (.v (.int .i64 p.l.length))),(11,true,.c (.v (.int .i64 k)))],[(0,.box 62 [.v (.int .i64 x.forecast.tide.mean),.v x.forecast.tide.parts.val,.v x.forecast.surges.val,.v x.chart.points.val,.v x.chart.segments.val,.v x.fleet.val,.v (.int .i64 x.regime.gap),.v (.bool x.regime.noMeet),.v (.int .i64 x.crew.tugs),.v (.int .i64 x.crew.pilots),.v (.int .i64 x.crew.rest),.v x.crew.moves.val])],h,1⟩) (fun k=>k≤p.l.length∧∀ i,i < k→zUB (Con.con x) (Con.con p) i=true) (fun k=>p.l.length - k) 0 ⟨Nat.zero_le _,zy7⟩ [0] ?_ ?_
 ·refine Evs ?_
  repeat' first|exact rfl|exact trivial|assumption|decide|refine And.intro ?_ ?_
 rintro k ⟨hk,hno⟩
 refine Wk ?_
 refine zc9 rfl (fun hd=>?_) (fun hd=>?_)
 ·have hlt:=zjG hd
  have hgo:=Sl.to_ok hp k
  have hlt0:=Sl.to_len hk
  have hcap:=hp.1
  repeat' first|refine zid rfl ?_|refine zc4 rfl ?_|refine zc7 ?_|refine zc8 ?_|refine zc5 ?_|refine zc6 ?_|(simp (maxSteps:=2000000) only [go_sem,yqa,yqb,yqc,yqd,yqe,yqf,zkW hp hlt,hp.some hlt,hlt,yqj];try rfl)|refine zc3 ?_|(refine And.intro ?_ ?_;focus (intros;simp_all only [yqg,yqh,yqi,and_self,true_and,and_true];done))
  refine ⟨by omega,?_⟩
  simp only [Int.toNat_zero,Nat.sub_zero,Nat.zero_mul,zyP,zyQ,ite_self]
  rw [zyR hk]
  refine Wk ?_
  refine zm6 (ι:=Nat) (fun j=>⟨[(1,true,.c (.v p.val)),(2,true,.c (.p 0 0)),(4,true,.c (.v (.bool false))),(6,true,.c (.p 1 0)),(9,true,.c (.v p.val)),(10,true,.c (.v (.int .i64 p.l.length))),(11,true,.c (.v (.int .i64 k))),(18,true,.c (.v (p.to k).val)),(19,true,.c (.v (.int .i64 k))),(20,true,.c (.v (.int .i64 j)))],[(0,.box 62 [.v (.int .i64 x.forecast.tide.mean),.v x.forecast.tide.parts.val,.v x.forecast.surges.val,.v x.chart.points.val,.v x.chart.segments.val,.v x.fleet.val,.v (.int .i64 x.regime.gap),.v (.bool x.regime.noMeet),.v (.int .i64 x.crew.tugs),.v (.int .i64 x.crew.pilots),.v (.int .i64 x.crew.rest),.v x.crew.moves.val]),(1,.box 84 [.v (.int .i64 p.l[k].start),.v (.int .i64 p.l[k].arr),.v (.int .i64 p.l[k].cost),.v p.l[k].pas.val])],h,2⟩) (fun j=>j≤k∧((p.l.take j).any fun q=>zzT (Con.con x.chart) x.regime p.l[k].pas.l q.pas.l)=false) (fun j=>k - j) 0 ⟨Nat.zero_le _,rfl⟩ [0,1] ?_ ?_
  ·refine Evs ?_
   repeat' first|exact rfl|exact trivial|assumption|decide|refine And.intro ?_ ?_
  rintro j ⟨hj,hnj⟩
  refine Wk ?_
  refine zc9 rfl (fun hq2=>?_) (fun hq2=>?_)
  ·have hltj:=zjG hq2
   have hltj':j < (p.to k).l.length:=by omega
   have hltj2:j < p.l.length:=by omega
   have hje:=Sl.to_get hltj' hltj2
   repeat' first|refine zid rfl ?_|refine zc4 rfl ?_|refine zc7 ?_|refine zc8 ?_|refine zc5 ?_|refine zc6 ?_|refine zhE (fun _=>zFr x.chart x.regime p.l[k].pas p.l[j].pas _ hx.2.1 hR hC (hp.el hlt).2.2.2 (hp.el hltj2).2.2.2) ?_|(simp (maxSteps:=2000000) only [go_sem,yqa,yqb,yqc,yqd,yqe,yqf,zkW hgo hltj',hgo.some hltj',hltj',hltj,yqj,hje];try rfl)|refine zc3 ?_|(refine And.intro ?_ ?_;focus (intros;simp_all only [yqg,yqh,yqi,and_self,true_and,and_true];done))
   refine zc9 rfl (fun hq=>?_) (fun hq=>?_)
   ·refine Wk ?_
    have hbad:zUB (Con.con x) (Con.con p) k=false:=by
     rw [hfl k hlt,Bool.not_eq_false',← List.take_append_drop (j+1) (p.l.take k),List.any_append,List.take_take,Nat.min_eq_left (by omega),zzU hltj2,hq,Bool.or_true,Bool.true_or]
    rw [zUC,decide_eq_false (fun H=>by rw [H k (by rw [hcon,List.length_map];exact hlt)] at hbad;cases hbad),Bool.false_and]
   ·refine Wk ?_
    refine ⟨j+1,[0,1],⟨hltj,zNq hltj2 hnj hq⟩,by omega,?_⟩
    refine Evs ?_
    repeat' first|exact zjA (zjz hltj (by omega))|exact rfl|exact trivial|assumption|decide|refine And.intro ?_ ?_
  ·have hgej:=zjH hq2
   obtain rfl:j=k:=by omega
   refine Wk ?_
   refine ⟨j+1,[0],⟨hlt,fun i hi=>?_⟩,by omega,?_⟩
   ·rcases Nat.lt_succ_iff_lt_or_eq.1 hi with hi|rfl
    ·exact hno i hi
    ·rw [hfl i hlt,hnj];rfl
   refine Evs ?_
   repeat' first|exact zjA (zjz hlt (by omega))|exact rfl|exact trivial|assumption|decide|refine And.intro ?_ ?_
 ·have hge:=zjH hd
  obtain rfl:k=p.l.length:=by omega
  refine zc6 ?_
  refine Evs ?_
  refine zc3 ?_
  refine zAZ rfl ?_
  refine zAS [0,2,4,6,1,3,5] rfl (by kernel_rfl) ?_
  refine Evs ?_
  refine zAX 7 0 [5,3,1,4,2,0] rfl (by kernel_rfl) (by kernel_rfl) (by kernel_rfl) rfl ?_
  refine Evs ?_
  refine zko (zMz p h hp hz) rfl ?_
  rintro v h2 le2 ⟨c2,rfl,ec2,okc2,mc2⟩
  refine Evs ?_
  refine zAX 8 0 [] rfl (by kernel_rfl) (by kernel_rfl) (by kernel_rfl) rfl ?_
  refine Evs ?_
  refine zhE (fun _=>zMm x.crew x.chart x.fleet c2 _ (Enc.mono le2 hx.2.2.2.2) (Enc.mono le2 hx.2.1) (Sl.Ok.mono le2 hx.2.2.1) okc2 (by rw [ec2];exact zMA _ hz)) ?_
  refine Evs ?_
  refine zAS [9] rfl (by kernel_rfl) ?_
  refine Evs ?_
  refine zAY (by kernel_rfl) ?_
  refine Wk ?_
  rw [ec2,zUC,decide_eq_true (fun i hi=>hno i (by rw [hcon,List.length_map] at hi;exact hi)),Bool.true_and]
  rfl
set_option maxRecDepth 30000 in
theorem zUK (x:DHarbour) (a:Sl DCall) (p:Sl DOption) (h:Hp) (hx:Enc.ok h x) (ha:a.Ok h) (hp:p.Ok h) (hz:Sz.sz (Con.con p)≤1048576):Ct Tryz.prog 52 [x.v,a.val,p.val] h fun v h'=>v=.bool (zUA (Con.con x) (Con.con a) (Con.con p))∧h'=h:=by
 have hla:=ha.max
 have hlp:=hp.max
 obtain ⟨hsz,hsf⟩:=zUH hz
 have hcon:Con.con p=p.l.map (Con.con (α:=DOption)):=rfl
 rw [zzJ,← zUG,zUD]
 refine zdm (fun A W=>by simp) Tryz.func52 rfl rfl (by simp) fun W0=>?_
 repeat' first|refine zid rfl ?_|refine zc4 rfl ?_|refine zc7 ?_|refine zc8 ?_|refine zc5 ?_|refine zc6 ?_|refine zhE (fun _=>zzK x a _ hx ha) ?_|(simp (maxSteps:=2000000) only [go_sem,yqa,yqb,yqc,yqd,yqe,yqf];try rfl)|refine zc3 ?_|(refine And.intro ?_ ?_;focus (intros;simp_all only [yqg,yqh,yqi,and_self,true_and,and_true];done))
 rw [zzJ]
 refine zc9 rfl (fun hc=>?_) (fun hc=>?_)
 ·refine Wk ?_
  rcases (yqh _ _).mp hc with h1|h1
  ·rw [Bool.not_eq_true'] at h1;rw [h1];rfl
  ·rw [decide_eq_false (p:=(Con.con p).length=a.l.length) (by have:=zjC h1;rw [hcon,List.length_map];omega),Bool.and_false];rfl
 obtain ⟨hH,h6⟩:=Bool.or_eq_false_iff.1 hc
 rw [Bool.not_eq_false'] at hH
 have hlen:p.l.length=a.l.length:=by have:=zjD h6;omega
 have h6:=zGx hH
 obtain ⟨hR,hC⟩:=zNs hH
 have hR:zzf x.regime=true:=hR
 have hC:zy2 (Con.con x.chart)=true:=hC
 rw [hH,decide_eq_true (show (Con.con p).length=a.l.length by rw [hcon,List.length_map];exact hlen),Bool.and_self,Bool.true_and]
 refine Wk ?_
 refine zm6 (ι:=Nat) (fun k=>⟨[(1,true,.c (.v a.val)),(2,true,.c (.v p.val)),(3,true,.c (.p 0 0)),(6,true,.c (.v (.bool false))),(20,true,.c (.v p.val)),(21,true,.c (.v (.int .i64 p.l.length))),(22,true,.c (.v (.int .i64 k)))],[(0,.box 62 [.v (.int .i64 x.forecast.tide.mean),.v x.forecast.tide.parts.val,.v x.forecast.surges.val,.v x.chart.points.val,.v x.chart.segments.val,.v x.fleet.val,.v (.int .i64 x.regime.gap),.v (.bool x.regime.noMeet),.v (.int .i64 x.crew.tugs),.v (.int .i64 x.crew.pilots),.v (.int .i64 x.crew.rest),.v x.crew.moves.val])],h,1⟩) (fun k=>k≤p.l.length∧∀ i,i < k→zHW (Con.con x) (a.l.getD i dC) ((Con.con p).getD i zEN)=true) (fun k=>p.l.length - k) 0 ⟨Nat.zero_le _,zy7⟩ [0] ?_ ?_
 ·refine Evs ?_
  repeat' first|exact rfl|exact trivial|assumption|decide|refine And.intro ?_ ?_
 rintro k ⟨hk,hip⟩
 refine Wk ?_
 refine zc9 rfl (fun hd=>?_) (fun hd=>?_)
 ·have hlt:=zjG hd
  have hlta:k < a.l.length:=by omega
  have hltai:(k:Int) < a.l.length:=by omega
  have hge:a.l.getD k dC=a.l[k]:=cget hlta
  have hgp:(Con.con p).getD k zEN=Con.con p.l[k]:=by rw [hcon];simp [List.getD_eq_getElem?_getD,hlt]
  repeat' first|refine zid rfl ?_|refine zc4 rfl ?_|refine zc7 ?_|refine zc8 ?_|refine zc5 ?_|refine zc6 ?_|(simp (maxSteps:=2000000) only [go_sem,yqa,yqb,yqc,yqd,yqe,yqf,zkW hp hlt,hp.some hlt,hlt,yqj];try rfl)|refine zc3 ?_|(refine And.intro ?_ ?_;focus (intros;simp_all only [yqg,yqh,yqi,and_self,true_and,and_true];done))
  refine zAZ rfl ?_
  refine zAS [0,1,2,5,3,4] rfl (by kernel_rfl) ?_
  simp (maxSteps:=2000000) only [go_sem,yqa,yqb,yqc,yqd,yqe,yqf,zkQ ha hlta,ha.some hlta,hlta,hltai,yqj,yqk,implies_true,true_and,and_true,and_self]
  refine zAX 6 0 [] rfl (by kernel_rfl) (by kernel_rfl) (by kernel_rfl) rfl ?_
  simp (maxSteps:=2000000) only [go_sem,yqa,yqb,yqc,yqd,yqe,yqf,zkQ ha hlta,ha.some hlta,hlta,hltai,yqj,yqk,implies_true,true_and,and_true,and_self]
  refine zhE (fun _=>zHZ x a.l[k] p.l[k] _ hx (ha.el hlta) (hp.el hlt) (hsz hlt)) ?_
  simp (maxSteps:=2000000) only [go_sem,yqa,yqb,yqc,yqd,yqe,yqf,zkQ ha hlta,ha.some hlta,hlta,hltai,yqj,yqk,implies_true,true_and,and_true,and_self]
  refine zAS [7] rfl (by kernel_rfl) ?_
  simp (maxSteps:=2000000) only [go_sem,yqa,yqb,yqc,yqd,yqe,yqf,zkQ ha hlta,ha.some hlta,hlta,hltai,yqj,yqk,implies_true,true_and,and_true,and_self]
  refine zAY (by kernel_rfl) ?_
  refine zc9 rfl (fun hq=>?_) (fun hq=>?_)
  ·rw [Bool.not_eq_true'] at hq
   refine Wk ?_
   rw [decide_eq_false (fun H=>by
    have:=H k (by rw [hcon,List.length_map];exact hlt)
    rw [hge,hgp] at this
    exact Bool.false_ne_true (hq.symm.trans this)),Bool.false_and]
  ·rw [Bool.not_eq_false'] at hq
   refine Wk ?_
   refine ⟨k+1,[0],⟨hlt,fun i hi=>?_⟩,by omega,?_⟩
   ·rcases Nat.lt_succ_iff_lt_or_eq.1 hi with hi|rfl
    ·exact hip i hi
    ·rw [hge,hgp];exact hq
   refine Evs ?_
   repeat' first|exact zjA (zjz hlt (by omega))|exact rfl|exact trivial|assumption|decide|refine And.intro ?_ ?_
 ·have hge:=zjH hd
  obtain rfl:k=p.l.length:=by omega
  repeat' first|refine zid rfl ?_|refine zc4 rfl ?_|refine zc7 ?_|refine zc8 ?_|refine zc5 ?_|refine zc6 ?_|refine zhE (fun _=>zUJ x p _ hx hp hz hR hC) ?_|(simp (maxSteps:=2000000) only [go_sem,yqa,yqb,yqc,yqd,yqe,yqf];try rfl)|refine zc3 ?_|(refine And.intro ?_ ?_;focus (intros;simp_all only [yqg,yqh,yqi,and_self,true_and,and_true];done))
  rw [decide_eq_true (fun i hi=>hip i (by rw [hcon,List.length_map] at hi;exact hi)),Bool.true_and]
noncomputable def zUL (x:PHarbour) (a:List DCall) (p:List POption) (m:List Int) (g:Int):Bool:=(zGm x a m).2 && zUA x a p && decide (IntKind.i64.wrap (zIX p - (zGm x a m).1)=g)
theorem zUM (x:DHarbour) (a:Sl DCall) (p:Sl DOption) (m:Sl Int) (g:Int) (h:Hp) (hx:Enc.ok h x) (ha:a.Ok h) (hp:p.Ok h) (hm:m.Ok h) (hg:I64 g) (hz:Sz.sz (Con.con p)≤1048576):Ct Tryz.prog 56 [x.v,a.val,p.val,m.val,.int .i64 g] h fun v h'=>v=.bool (zUL (Con.con x) (Con.con a) (Con.con p) (Con.con m) g)∧h'=h:=by
 refine zdm (fun A W=>by simp) Tryz.func56 rfl rfl (by simp) fun W0=>?_
 repeat' first|refine zid rfl ?_|refine zc4 rfl ?_|refine zc7 ?_|refine zc8 ?_|refine zc5 ?_|refine zc6 ?_|refine zhE (fun _=>zGz x a m _ hx ha hm) ?_|refine zhE (fun _=>zUI x a p _ hx ha hp hz) ?_|refine zhE (fun _=>zI0 p _ hp) ?_|(simp (maxSteps:=2000000) only [go_sem,yqa,yqb,yqc,yqd,yqe,yqf];try rfl)|refine zc3 ?_|(refine And.intro ?_ ?_;focus (intros;simp_all only [yqg,yqh,yqi,and_self,true_and,and_true];done))
theorem zUN (x:DHarbour) (a:Sl DCall) (p:Sl DOption) (m:Sl Int) (g:Int) (h:Hp) (hx:Enc.ok h x) (ha:a.Ok h) (hp:p.Ok h) (hm:m.Ok h) (hg:I64 g) (hz:Sz.sz (Con.con p)≤1048576):Ct Tryz.prog 55 [x.v,a.val,p.val,m.val,.int .i64 g] h fun v h'=>v=.bool (zUL (Con.con x) (Con.con a) (Con.con p) (Con.con m) g)∧h'=h:=by
 refine zdm (fun A W=>by simp) Tryz.func55 rfl rfl (by simp) fun W0=>?_
 repeat' first|refine zid rfl ?_|refine zc4 rfl ?_|refine zc7 ?_|refine zc8 ?_|refine zc5 ?_|refine zc6 ?_|refine zhE (fun _=>zGy x a m _ hx ha hm) ?_|refine zhE (fun _=>zUK x a p _ hx ha hp hz) ?_|refine zhE (fun _=>zUx p _ hp) ?_|(simp (maxSteps:=2000000) only [go_sem,yqa,yqb,yqc,yqd,yqe,yqf];try rfl)|refine zc3 ?_|(refine And.intro ?_ ?_;focus (intros;simp_all only [yqg,yqh,yqi,and_self,true_and,and_true];done))
end Go.Proofs.YtbkaaakphpbmiaaGreat
namespace Go.Proofs.YtbkaaakphpbmiaaGreat
open Go Go.SL Go.RowKit Go.ChangeShapes Go.WideShapes Go.ChangeAt Go.Deep
set_option maxHeartbeats 1000000
theorem Tryz.own:ownKnob Tryz.prog.godebug=none:=by kernel_rfl
theorem Tryz.laidOut:laidOutB Tryz.prog=true:=by kernel_rfl
theorem zFE:Tryz.prog.cellsOf 3=1:=by kernel_rfl
theorem zFF:Tryz.prog.cellsOf 4=1:=by kernel_rfl
theorem zFG:Tryz.prog.cellsOf 9=1:=by kernel_rfl
theorem zFH:Opens Int Tryz.prog 3:=zks Tryz.underlying3
set_option maxRecDepth 100000 in
theorem zFI:Opens DCall Tryz.prog 77:=by
 intro H enc w base spare held fuel cs x h
 obtain ⟨hl,hf⟩:=zku Tryz.underlying77 h
 have hl:cs.length=5:=hl.trans (by kernel_rfl)
 match cs,hl with
 | [c0,c1,c2,c3,c4],_ =>
  obtain ⟨a0,e0,o0⟩:=zly Tryz.underlying3 hf 0 0 ⟨_,rfl,rfl,rfl⟩ zFE
  have e0:[c0]=[.int .i64 a0]:=e0
  obtain ⟨a1,e1,o1⟩:=zly Tryz.underlying3 hf 1 1 ⟨_,rfl,rfl,rfl⟩ zFE
  have e1:[c1]=[.int .i64 a1]:=e1
  obtain ⟨a2,e2,o2⟩:=zly Tryz.underlying3 hf 2 2 ⟨_,rfl,rfl,rfl⟩ zFE
  have e2:[c2]=[.int .i64 a2]:=e2
  obtain ⟨a3,e3,o3⟩:=zly Tryz.underlying3 hf 3 3 ⟨_,rfl,rfl,rfl⟩ zFE
  have e3:[c3]=[.int .i64 a3]:=e3
  obtain ⟨a4,e4,o4⟩:=zly Tryz.underlying3 hf 4 4 ⟨_,rfl,rfl,rfl⟩ zFE
  have e4:[c4]=[.int .i64 a4]:=e4
  have ee:[c0] ++ [c1] ++ [c2] ++ [c3] ++ [c4]=[.int .i64 a0] ++ [.int .i64 a1] ++ [.int .i64 a2] ++ [.int .i64 a3] ++ [.int .i64 a4]:=by rw [e0,e1,e2,e3,e4]
  exact ⟨⟨a0,a1,a2,a3,a4⟩,ee,o0,o1,o2,o3,o4⟩
theorem zFJ:Opens (Sl DCall) Tryz.prog 40:=zkt Tryz.underlying40 (by kernel_rfl) zFI
set_option maxRecDepth 100000 in
theorem zH0:Opens DPassage Tryz.prog 248:=by
 intro H enc w base spare held fuel cs x h
 obtain ⟨hl,hf⟩:=zku Tryz.underlying248 h
 have hl:cs.length=5:=hl.trans (by kernel_rfl)
 match cs,hl with
 | [c0,c1,c2,c3,c4],_ =>
  obtain ⟨a0,e0,o0⟩:=zly Tryz.underlying3 hf 0 0 ⟨_,rfl,rfl,rfl⟩ zFE
  have e0:[c0]=[.int .i64 a0]:=e0
  obtain ⟨a1,e1,o1⟩:=zly Tryz.underlying3 hf 1 1 ⟨_,rfl,rfl,rfl⟩ zFE
  have e1:[c1]=[.int .i64 a1]:=e1
  obtain ⟨a2,e2⟩:=zlz Tryz.underlying4 hf 2 2 ⟨_,rfl,rfl,rfl⟩ zFF
  have e2:[c2]=[.bool a2]:=e2
  obtain ⟨a3,e3,o3⟩:=zly Tryz.underlying3 hf 3 3 ⟨_,rfl,rfl,rfl⟩ zFE
  have e3:[c3]=[.int .i64 a3]:=e3
  obtain ⟨a4,e4,o4⟩:=zly Tryz.underlying3 hf 4 4 ⟨_,rfl,rfl,rfl⟩ zFE
  have e4:[c4]=[.int .i64 a4]:=e4
  have ee:[c0] ++ [c1] ++ [c2] ++ [c3] ++ [c4]=[.int .i64 a0] ++ [.int .i64 a1] ++ [.bool a2] ++ [.int .i64 a3] ++ [.int .i64 a4]:=by rw [e0,e1,e2,e3,e4]
  exact ⟨⟨a0,a1,a2,a3,a4⟩,ee,o0,o1,o3,o4⟩
theorem zH1:Tryz.prog.cellsOf 101=1:=by kernel_rfl
theorem opens_PassageS:Opens (Sl DPassage) Tryz.prog 101:=zkt Tryz.underlying101 (by kernel_rfl) zH0
set_option maxRecDepth 100000 in
theorem zH2:Opens DOption Tryz.prog 103:=by
 intro H enc w base spare held fuel cs x h
 obtain ⟨hl,hf⟩:=zku Tryz.underlying103 h
 have hl:cs.length=4:=hl.trans (by kernel_rfl)
 match cs,hl with
 | [c0,c1,c2,c3],_ =>
  obtain ⟨a0,e0,o0⟩:=zly Tryz.underlying3 hf 0 0 ⟨_,rfl,rfl,rfl⟩ zFE
  have e0:[c0]=[.int .i64 a0]:=e0
  obtain ⟨a1,e1,o1⟩:=zly Tryz.underlying3 hf 1 1 ⟨_,rfl,rfl,rfl⟩ zFE
  have e1:[c1]=[.int .i64 a1]:=e1
  obtain ⟨a2,e2,o2⟩:=zly Tryz.underlying3 hf 2 2 ⟨_,rfl,rfl,rfl⟩ zFE
  have e2:[c2]=[.int .i64 a2]:=e2
  obtain ⟨a3,e3,o3⟩:=opens_PassageS.field hf 3 3 1 ⟨_,rfl,rfl,rfl⟩ zH1
  have e3:[c3]=Enc.enc a3:=e3
  have ee:[c0] ++ [c1] ++ [c2] ++ [c3]=[.int .i64 a0] ++ [.int .i64 a1] ++ [.int .i64 a2] ++ Enc.enc a3:=by rw [e0,e1,e2,e3]
  exact ⟨⟨a0,a1,a2,a3⟩,ee,o0,o1,o2,o3⟩
theorem zUO:Opens (Sl DOption) Tryz.prog 108:=zkt Tryz.underlying108 (by kernel_rfl) zH2
theorem zFK:Tryz.prog.cellsOf 35=1:=by kernel_rfl
theorem opens_IntS:Opens (Sl Int) Tryz.prog 35:=zkt Tryz.underlying35 (by kernel_rfl) zFH
theorem zFL:Tryz.prog.cellsOf 37=4:=by kernel_rfl
set_option maxRecDepth 100000 in
theorem opens_Crew:Opens DCrew Tryz.prog 37:=by
 intro H enc w base spare held fuel cs x h
 obtain ⟨hl,hf⟩:=zku Tryz.underlying37 h
 have hl:cs.length=4:=hl.trans (by kernel_rfl)
 match cs,hl with
 | [c0,c1,c2,c3],_ =>
  obtain ⟨a0,e0,o0⟩:=zly Tryz.underlying3 hf 0 0 ⟨_,rfl,rfl,rfl⟩ zFE
  have e0:[c0]=[.int .i64 a0]:=e0
  obtain ⟨a1,e1,o1⟩:=zly Tryz.underlying3 hf 1 1 ⟨_,rfl,rfl,rfl⟩ zFE
  have e1:[c1]=[.int .i64 a1]:=e1
  obtain ⟨a2,e2,o2⟩:=zly Tryz.underlying3 hf 2 2 ⟨_,rfl,rfl,rfl⟩ zFE
  have e2:[c2]=[.int .i64 a2]:=e2
  obtain ⟨a3,e3,o3⟩:=opens_IntS.field hf 3 3 1 ⟨_,rfl,rfl,rfl⟩ zFK
  have e3:[c3]=Enc.enc a3:=e3
  have ee:[c0] ++ [c1] ++ [c2] ++ [c3]=[.int .i64 a0] ++ [.int .i64 a1] ++ [.int .i64 a2] ++ Enc.enc a3:=by rw [e0,e1,e2,e3]
  exact ⟨⟨a0,a1,a2,a3⟩,ee,o0,o1,o2,o3⟩
set_option maxRecDepth 100000 in
theorem zFM:Opens DPart Tryz.prog 312:=by
 intro H enc w base spare held fuel cs x h
 obtain ⟨hl,hf⟩:=zku Tryz.underlying312 h
 have hl:cs.length=3:=hl.trans (by kernel_rfl)
 match cs,hl with
 | [c0,c1,c2],_ =>
  obtain ⟨a0,e0,o0⟩:=zly Tryz.underlying3 hf 0 0 ⟨_,rfl,rfl,rfl⟩ zFE
  have e0:[c0]=[.int .i64 a0]:=e0
  obtain ⟨a1,e1,o1⟩:=zly Tryz.underlying3 hf 1 1 ⟨_,rfl,rfl,rfl⟩ zFE
  have e1:[c1]=[.int .i64 a1]:=e1
  obtain ⟨a2,e2,o2⟩:=zly Tryz.underlying3 hf 2 2 ⟨_,rfl,rfl,rfl⟩ zFE
  have e2:[c2]=[.int .i64 a2]:=e2
  have ee:[c0] ++ [c1] ++ [c2]=[.int .i64 a0] ++ [.int .i64 a1] ++ [.int .i64 a2]:=by rw [e0,e1,e2]
  exact ⟨⟨a0,a1,a2⟩,ee,o0,o1,o2⟩
theorem zFN:Tryz.prog.cellsOf 22=1:=by kernel_rfl
theorem opens_PartS:Opens (Sl DPart) Tryz.prog 22:=zkt Tryz.underlying22 (by kernel_rfl) zFM
theorem zFO:Tryz.prog.cellsOf 24=2:=by kernel_rfl
set_option maxRecDepth 100000 in
theorem opens_Tide:Opens DTide Tryz.prog 24:=by
 intro H enc w base spare held fuel cs x h
 obtain ⟨hl,hf⟩:=zku Tryz.underlying24 h
 have hl:cs.length=2:=hl.trans (by kernel_rfl)
 match cs,hl with
 | [c0,c1],_ =>
  obtain ⟨a0,e0,o0⟩:=zly Tryz.underlying3 hf 0 0 ⟨_,rfl,rfl,rfl⟩ zFE
  have e0:[c0]=[.int .i64 a0]:=e0
  obtain ⟨a1,e1,o1⟩:=opens_PartS.field hf 1 1 1 ⟨_,rfl,rfl,rfl⟩ zFN
  have e1:[c1]=Enc.enc a1:=e1
  have ee:[c0] ++ [c1]=[.int .i64 a0] ++ Enc.enc a1:=by rw [e0,e1]
  exact ⟨⟨a0,a1⟩,ee,o0,o1⟩
set_option maxRecDepth 100000 in
theorem zFP:Opens DSurge Tryz.prog 268:=by
 intro H enc w base spare held fuel cs x h
 obtain ⟨hl,hf⟩:=zku Tryz.underlying268 h
 have hl:cs.length=3:=hl.trans (by kernel_rfl)
 match cs,hl with
 | [c0,c1,c2],_ =>
  obtain ⟨a0,e0,o0⟩:=zly Tryz.underlying3 hf 0 0 ⟨_,rfl,rfl,rfl⟩ zFE
  have e0:[c0]=[.int .i64 a0]:=e0
  obtain ⟨a1,e1,o1⟩:=zly Tryz.underlying3 hf 1 1 ⟨_,rfl,rfl,rfl⟩ zFE
  have e1:[c1]=[.int .i64 a1]:=e1
  obtain ⟨a2,e2,o2⟩:=zly Tryz.underlying3 hf 2 2 ⟨_,rfl,rfl,rfl⟩ zFE
  have e2:[c2]=[.int .i64 a2]:=e2
  have ee:[c0] ++ [c1] ++ [c2]=[.int .i64 a0] ++ [.int .i64 a1] ++ [.int .i64 a2]:=by rw [e0,e1,e2]
  exact ⟨⟨a0,a1,a2⟩,ee,o0,o1,o2⟩
theorem zFQ:Tryz.prog.cellsOf 25=1:=by kernel_rfl
theorem opens_SurgeS:Opens (Sl DSurge) Tryz.prog 25:=zkt Tryz.underlying25 (by kernel_rfl) zFP
theorem zFR:Tryz.prog.cellsOf 27=3:=by kernel_rfl
set_option maxRecDepth 100000 in
theorem opens_Forecast:Opens DForecast Tryz.prog 27:=by
 intro H enc w base spare held fuel cs x h
 obtain ⟨hl,hf⟩:=zku Tryz.underlying27 h
 have hl:cs.length=3:=hl.trans (by kernel_rfl)
 match cs,hl with
 | [c0,c1,c2],_ =>
  obtain ⟨a0,e0,o0⟩:=opens_Tide.field hf 0 0 2 ⟨_,rfl,rfl,rfl⟩ zFO
  have e0:[c0,c1]=Enc.enc a0:=e0
  obtain ⟨a1,e1,o1⟩:=opens_SurgeS.field hf 1 2 1 ⟨_,rfl,rfl,rfl⟩ zFQ
  have e1:[c2]=Enc.enc a1:=e1
  have ee:[c0,c1] ++ [c2]=Enc.enc a0 ++ Enc.enc a1:=by rw [e0,e1]
  exact ⟨⟨a0,a1⟩,ee,o0,o1⟩
set_option maxRecDepth 100000 in
theorem zFS:Opens DPoint Tryz.prog 265:=by
 intro H enc w base spare held fuel cs x h
 obtain ⟨hl,hf⟩:=zku Tryz.underlying265 h
 have hl:cs.length=2:=hl.trans (by kernel_rfl)
 match cs,hl with
 | [c0,c1],_ =>
  obtain ⟨a0,e0,o0⟩:=zlA Tryz.underlying9 hf 0 0 ⟨_,rfl,rfl,rfl⟩ zFG
  have e0:[c0]=[.string a0]:=e0
  obtain ⟨a1,e1⟩:=zlz Tryz.underlying4 hf 1 1 ⟨_,rfl,rfl,rfl⟩ zFF
  have e1:[c1]=[.bool a1]:=e1
  have ee:[c0] ++ [c1]=[.string a0] ++ [.bool a1]:=by rw [e0,e1]
  exact ⟨⟨a0,a1⟩,ee,o0⟩
theorem zFT:Tryz.prog.cellsOf 28=1:=by kernel_rfl
theorem opens_PointS:Opens (Sl DPoint) Tryz.prog 28:=zkt Tryz.underlying28 (by kernel_rfl) zFS
set_option maxRecDepth 100000 in
theorem zFU:Opens DSegment Tryz.prog 271:=by
 intro H enc w base spare held fuel cs x h
 obtain ⟨hl,hf⟩:=zku Tryz.underlying271 h
 have hl:cs.length=5:=hl.trans (by kernel_rfl)
 match cs,hl with
 | [c0,c1,c2,c3,c4],_ =>
  obtain ⟨a0,e0,o0⟩:=zly Tryz.underlying3 hf 0 0 ⟨_,rfl,rfl,rfl⟩ zFE
  have e0:[c0]=[.int .i64 a0]:=e0
  obtain ⟨a1,e1,o1⟩:=zly Tryz.underlying3 hf 1 1 ⟨_,rfl,rfl,rfl⟩ zFE
  have e1:[c1]=[.int .i64 a1]:=e1
  obtain ⟨a2,e2,o2⟩:=zly Tryz.underlying3 hf 2 2 ⟨_,rfl,rfl,rfl⟩ zFE
  have e2:[c2]=[.int .i64 a2]:=e2
  obtain ⟨a3,e3,o3⟩:=zly Tryz.underlying3 hf 3 3 ⟨_,rfl,rfl,rfl⟩ zFE
  have e3:[c3]=[.int .i64 a3]:=e3
  obtain ⟨a4,e4⟩:=zlz Tryz.underlying4 hf 4 4 ⟨_,rfl,rfl,rfl⟩ zFF
  have e4:[c4]=[.bool a4]:=e4
  have ee:[c0] ++ [c1] ++ [c2] ++ [c3] ++ [c4]=[.int .i64 a0] ++ [.int .i64 a1] ++ [.int .i64 a2] ++ [.int .i64 a3] ++ [.bool a4]:=by rw [e0,e1,e2,e3,e4]
  exact ⟨⟨a0,a1,a2,a3,a4⟩,ee,o0,o1,o2,o3⟩
theorem zFV:Tryz.prog.cellsOf 29=1:=by kernel_rfl
theorem opens_SegmentS:Opens (Sl DSegment) Tryz.prog 29:=zkt Tryz.underlying29 (by kernel_rfl) zFU
theorem zFW:Tryz.prog.cellsOf 31=2:=by kernel_rfl
set_option maxRecDepth 100000 in
theorem opens_Chart:Opens DChart Tryz.prog 31:=by
 intro H enc w base spare held fuel cs x h
 obtain ⟨hl,hf⟩:=zku Tryz.underlying31 h
 have hl:cs.length=2:=hl.trans (by kernel_rfl)
 match cs,hl with
 | [c0,c1],_ =>
  obtain ⟨a0,e0,o0⟩:=opens_PointS.field hf 0 0 1 ⟨_,rfl,rfl,rfl⟩ zFT
  have e0:[c0]=Enc.enc a0:=e0
  obtain ⟨a1,e1,o1⟩:=opens_SegmentS.field hf 1 1 1 ⟨_,rfl,rfl,rfl⟩ zFV
  have e1:[c1]=Enc.enc a1:=e1
  have ee:[c0] ++ [c1]=Enc.enc a0 ++ Enc.enc a1:=by rw [e0,e1]
  exact ⟨⟨a0,a1⟩,ee,o0,o1⟩
set_option maxRecDepth 100000 in
theorem zFX:Opens DShip Tryz.prog 197:=by
 intro H enc w base spare held fuel cs x h
 obtain ⟨hl,hf⟩:=zku Tryz.underlying197 h
 have hl:cs.length=6:=hl.trans (by kernel_rfl)
 match cs,hl with
 | [c0,c1,c2,c3,c4,c5],_ =>
  obtain ⟨a0,e0,o0⟩:=zlA Tryz.underlying9 hf 0 0 ⟨_,rfl,rfl,rfl⟩ zFG
  have e0:[c0]=[.string a0]:=e0
  obtain ⟨a1,e1,o1⟩:=zly Tryz.underlying3 hf 1 1 ⟨_,rfl,rfl,rfl⟩ zFE
  have e1:[c1]=[.int .i64 a1]:=e1
  obtain ⟨a2,e2,o2⟩:=zly Tryz.underlying3 hf 2 2 ⟨_,rfl,rfl,rfl⟩ zFE
  have e2:[c2]=[.int .i64 a2]:=e2
  obtain ⟨a3,e3,o3⟩:=zly Tryz.underlying3 hf 3 3 ⟨_,rfl,rfl,rfl⟩ zFE
  have e3:[c3]=[.int .i64 a3]:=e3
  obtain ⟨a4,e4,o4⟩:=zly Tryz.underlying3 hf 4 4 ⟨_,rfl,rfl,rfl⟩ zFE
  have e4:[c4]=[.int .i64 a4]:=e4
  obtain ⟨a5,e5⟩:=zlz Tryz.underlying4 hf 5 5 ⟨_,rfl,rfl,rfl⟩ zFF
  have e5:[c5]=[.bool a5]:=e5
  have ee:[c0] ++ [c1] ++ [c2] ++ [c3] ++ [c4] ++ [c5]=[.string a0] ++ [.int .i64 a1] ++ [.int .i64 a2] ++ [.int .i64 a3] ++ [.int .i64 a4] ++ [.bool a5]:=by rw [e0,e1,e2,e3,e4,e5]
  exact ⟨⟨a0,a1,a2,a3,a4,a5⟩,ee,o0,o1,o2,o3,o4⟩
theorem zFY:Tryz.prog.cellsOf 32=1:=by kernel_rfl
theorem opens_ShipS:Opens (Sl DShip) Tryz.prog 32:=zkt Tryz.underlying32 (by kernel_rfl) zFX
theorem zFZ:Tryz.prog.cellsOf 34=2:=by kernel_rfl
set_option maxRecDepth 100000 in
theorem opens_Regime:Opens DRegime Tryz.prog 34:=by
 intro H enc w base spare held fuel cs x h
 obtain ⟨hl,hf⟩:=zku Tryz.underlying34 h
 have hl:cs.length=2:=hl.trans (by kernel_rfl)
 match cs,hl with
 | [c0,c1],_ =>
  obtain ⟨a0,e0,o0⟩:=zly Tryz.underlying3 hf 0 0 ⟨_,rfl,rfl,rfl⟩ zFE
  have e0:[c0]=[.int .i64 a0]:=e0
  obtain ⟨a1,e1⟩:=zlz Tryz.underlying4 hf 1 1 ⟨_,rfl,rfl,rfl⟩ zFF
  have e1:[c1]=[.bool a1]:=e1
  have ee:[c0] ++ [c1]=[.int .i64 a0] ++ [.bool a1]:=by rw [e0,e1]
  exact ⟨⟨a0,a1⟩,ee,o0⟩
set_option maxRecDepth 100000 in
theorem zF0:Opens DHarbour Tryz.prog 39:=by
 intro H enc w base spare held fuel cs x h
 obtain ⟨hl,hf⟩:=zku Tryz.underlying39 h
 have hl:cs.length=12:=hl.trans (by kernel_rfl)
 match cs,hl with
 | [c0,c1,c2,c3,c4,c5,c6,c7,c8,c9,c10,c11],_ =>
  obtain ⟨a0,e0,o0⟩:=opens_Forecast.field hf 0 0 3 ⟨_,rfl,rfl,rfl⟩ zFR
  have e0:[c0,c1,c2]=Enc.enc a0:=e0
  obtain ⟨a1,e1,o1⟩:=opens_Chart.field hf 1 3 2 ⟨_,rfl,rfl,rfl⟩ zFW
  have e1:[c3,c4]=Enc.enc a1:=e1
  obtain ⟨a2,e2,o2⟩:=opens_ShipS.field hf 2 5 1 ⟨_,rfl,rfl,rfl⟩ zFY
  have e2:[c5]=Enc.enc a2:=e2
  obtain ⟨a3,e3,o3⟩:=opens_Regime.field hf 3 6 2 ⟨_,rfl,rfl,rfl⟩ zFZ
  have e3:[c6,c7]=Enc.enc a3:=e3
  obtain ⟨a4,e4,o4⟩:=opens_Crew.field hf 4 8 4 ⟨_,rfl,rfl,rfl⟩ zFL
  have e4:[c8,c9,c10,c11]=Enc.enc a4:=e4
  have ee:[c0,c1,c2] ++ [c3,c4] ++ [c5] ++ [c6,c7] ++ [c8,c9,c10,c11]=Enc.enc a0 ++ Enc.enc a1 ++ Enc.enc a2 ++ Enc.enc a3 ++ Enc.enc a4:=by rw [e0,e1,e2,e3,e4]
  exact ⟨⟨a0,a1,a2,a3,a4⟩,ee,o0,o1,o2,o3,o4⟩
end Go.Proofs.YtbkaaakphpbmiaaGreat
