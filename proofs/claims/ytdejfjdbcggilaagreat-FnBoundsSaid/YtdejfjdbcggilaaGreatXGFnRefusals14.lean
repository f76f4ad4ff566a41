/- What functions of the given program compute, as contracts. -/
import Derived.Test.YtdejfjdbcggilaaGreatXGFnRefusals12
import Derived.Test.YtdejfjdbcggilaaGreatXGFnRefusals13
set_option linter.unusedVariables false
set_option linter.unusedSimpArgs false
set_option maxRecDepth 4000
open Nat renaming reduceAdd → jq, reduceMul → jj, reduceBEq → jy, reduceLeDiff → jv, reduceLT → jk, reduceEqDiff → jx
open Bool renaming or_eq_false_iff → jp, or_eq_true → jQ, and_eq_true → jJ
open Int renaming toNat_natCast → jW, natCast_nonneg → jY
open Go.Proofs.Tryz renaming prog → jV
namespace Go.Proofs.YtdejfjdbcggilaaGreat
open Go Go.SL
set_option maxHeartbeats 1000000
def srW (x:zOw) (w:List POption→Int):List (List POption)→List POption→List Nat→BSt→BSt
 | [],p,ch,st=>if cut st (w p)=true then st else some (ch,w p)
 | l :: L,p,ch,st=>if cut st (w p)=true then st else (List.range l.length).foldl (fun st k=>if zJT x p (l.getD k zFE)=true then srW x w L (p ++ [l.getD k zFE]) (ch ++ [k]) st else st) st
theorem zKr {p:List POption} (h6:p.length≤6) (hc:∀ o ∈ p,0≤o.cost∧o.cost≤2880):zzp p=sumC p:=by
 have key:∀ (p:List POption) (z:Int),(∀ o ∈ p,0≤o.cost∧o.cost≤2880)→0≤z→z+2880 * (p.length:Int)≤1000000→p.foldl (fun t o=>IntKind.i64.wrap (t+o.cost)) z=z+sumC p:=by
  intro p
  induction p with
  | nil=>intro z _ _ _;simp [sumC]
  | cons o p ih =>
   intro z hc h0 h1
   obtain ⟨c0,c1⟩:=hc o (List.mem_cons_self ..)
   rw [List.length_cons] at h1
   rw [List.foldl_cons,zjz (by omega),ih _ (fun y hy=>hc y (List.mem_cons_of_mem _ hy)) (by omega) (by push_cast at h1;omega)]
   simp only [sumC,List.map_cons,List.sum_cons]
   omega
 rw [zzp,key p 0 hc (Int.le_refl _) (by omega)]
 omega
theorem zKs {x:zOw}:∀ {L:List (List POption)} {p:List POption} {ch:List Nat} {st:BSt},p.length+L.length≤6→(∀ o ∈ p,0≤o.cost∧o.cost≤2880)→(∀ l ∈ L,∀ o ∈ l,0≤o.cost∧o.cost≤2880)→srW x zzp L p ch st=srI x L p ch st
 | [],p,ch,st,h6,hp,_=>by rw [srW,srI,zKr (by simpa using h6) hp]
 | l :: L,p,ch,st,h6,hp,hL=>by
  rw [List.length_cons] at h6
  rw [srW,srI,zKr (by omega) hp]
  split
  ·rfl
  ·refine zJ0 fun k hk st=>?_
   have hk:=List.mem_range.1 hk
   split
   ·refine zKs (by rw [List.length_append,List.length_singleton];omega) (fun o ho=>?_) fun l hl=>hL l (List.mem_cons_of_mem _ hl)
    rcases List.mem_append.1 ho with ho|ho
    ·exact hp o ho
    ·rw [List.mem_singleton.1 ho];exact hL l (List.mem_cons_self ..) _ (zJX hk)
   ·rfl
def BS (st:BSt) (be:Sl Int) (m0 m1:Int) (fo:Bool):Prop:=match st with
 | none=>fo=false∧be.l=[]∧m0=0∧m1=0
 | some (w,c)=>fo=true∧be.l=zs w∧m0=c∧m1=0
def zKt (a0 a1 b0 b1:Int):Bool:=decide (a0 < b0) || (decide (a0=b0) && decide (a1 < b1))
theorem zKu {st:BSt} {be:Sl Int} {m0 m1 c:Int} {fo:Bool} (h:BS st be m0 m1 fo):(fo && !zKt c 0 m0 m1)=cut st c:=by
 cases st with
 | none=>rw [show fo=false from h.1];rfl
 | some s =>
  obtain ⟨w',c'⟩:=s
  obtain ⟨rfl,-,rfl,rfl⟩:=h
  rw [cut,zKt,Bool.eq_iff_iff]
  simp only [Bool.true_and,Bool.not_eq_true',jp,Bool.and_eq_false_iff,decide_eq_false_iff_not,decide_eq_true_eq]
  omega
def RowF {α:Type} [Enc α] (e:TypeId) (hb h:Hp) (b:Nat) (s:Sl α):Prop:=RowAt e h s∧∀ g,s.a=some ⟨g,0,none⟩→hb g=none∧g ≠ b
def Apart {α β:Type} (s:Sl α) (t:Sl β):Prop:=∀ g,s.a=some ⟨g,0,none⟩→t.a ≠ some ⟨g,0,none⟩
theorem Apart.symm {α β:Type} {s:Sl α} {t:Sl β} (H:Apart s t):Apart t s:=fun g h1 h2=>H g h2 h1
theorem zKv {α:Type} [Enc α] {e:TypeId} {h h2:Hp} {s:Sl α} (H:RowAt e h s) (hle:h.le h2):RowAt e h2 s:=H.keep fun g hg=>by
 cases hh:h g with
 | none=>exact (zIm H hg hh).elim
 | some o=>exact hle g o hh
theorem RowF.grow {α:Type} [Enc α] {e:TypeId} {hb h h2:Hp} {b:Nat} {s:Sl α} (H:RowF e hb h b s) (hle:h.le h2):RowF e hb h2 b s:=⟨zKv H.1 hle,H.2⟩
theorem RowF.ins {α:Type} [Enc α] {e:TypeId} {hb h:Hp} {b:Nat} {s:Sl α} {o:Obj} (H:RowF e hb h b s):RowF e hb (h.ins b o) b s:=⟨H.1.keep fun g hg=>Hp.ins_ne (H.2 g hg).2,H.2⟩
theorem RowF.cut {α:Type} [Enc α] {e:TypeId} {hb h:Hp} {b:Nat} {s:Sl α} {k:Nat} (H:RowF e hb h b s) (hk:k≤s.l.length):RowF e hb h b (s.to k):=⟨zIk H.1 hk,H.2⟩
theorem zKw {α:Type} [Enc α] {e:TypeId} {hb h h2:Hp} {b:Nat} {s:Sl α} {l:List α} {ad:Option Addr} {cap:Nat} (hle:hb.le h) (hbn:h b ≠ none) (R:RowF e hb h b s) (P:Pub (zCO h s) e (Enc.size α) l.length (l.flatMap Enc.enc) ad cap h2) :
  hb.le h2∧h2 b=h b∧RowF e hb h2 b (Sl.mk ad cap l)∧∀ {β:Type} [Enc β] {e':TypeId} {t:Sl β},RowF e' hb h b t→Apart s t→RowF e' hb h2 b t∧Apart (Sl.mk ad cap l) t:=by
 obtain ⟨R1,F1⟩:=R
 obtain ⟨p1,p2,p3⟩:=zIl R1 P
 have fr:∀ g,ad=some ⟨g,0,none⟩→hb g=none∧g ≠ b:=fun g hg=>by
  rcases p2 g hg with x|x
  ·refine ⟨?_,fun e=>hbn (by rw [← e];exact x)⟩
   cases hh:hb g with
   | none=>rfl
   | some o=>rw [hle g o hh] at x;cases x
  ·exact F1 g x
 refine ⟨fun k o hk=>?_,p3 b (fun g hg e=>(fr g hg).2 e.symm) (fun g hg e=>(F1 g hg).2 e.symm),⟨p1,fr⟩,fun {β} _ {e'} {t} Rt A=>?_⟩
 ·rw [p3 k (fun g hg e=>by subst e;rw [(fr _ hg).1] at hk;cases hk) (fun g hg e=>by subst e;rw [(F1 _ hg).1] at hk;cases hk)]
  exact hle k o hk
 ·have no:∀ g,ad=some ⟨g,0,none⟩→t.a ≠ some ⟨g,0,none⟩:=fun g hg ht=>by
   rcases p2 g hg with x|x
   ·exact zIm Rt.1 ht x
   ·exact A g x ht
  refine ⟨⟨Rt.1.keep fun g hg=>p3 g (fun g' hg' e=>?_) (fun g' hg' e=>?_),Rt.2⟩,no⟩
  ·subst e;exact no _ hg' hg
  ·subst e;exact A _ hg' hg
def plC (x:DHarbour) (L:Sl (Sl DOption)) (wf:Value) (p:Sl DOption) (ch be:Sl Int) (m0 m1:Int) (fo:Bool):List Value:=[.int .i64 x.forecast.tide.mean,x.forecast.tide.parts.val,x.forecast.surges.val,x.chart.points.val,x.chart.segments.val,x.fleet.val,.int .i64 x.regime.gap,.bool x.regime.noMeet,.int .i64 x.crew.tugs,.int .i64 x.crew.pilots,.int .i64 x.crew.rest,x.crew.moves.val,L.val,wf,p.val,ch.val,be.val,.int .i64 m0,.int .i64 m1,.bool fo]
structure PV (hb h:Hp) (b:Nat) (x:DHarbour) (L:Sl (Sl DOption)) (wf:Value) (p:Sl DOption) (ch be:Sl Int) (m0 m1:Int) (fo:Bool):Prop where
 le:hb.le h
 ox:Enc.ok hb x
 oL:L.Ok hb
 nb:hb b=none
 bx:h b=some (.cells (plC x L wf p ch be m0 m1 fo).toArray 191 (0,0))
 rp:RowF 149 hb h b p
 op:∀ y ∈ p.l,Enc.ok hb y
 rc:RowF 3 hb h b ch
 rb:RowF 3 hb h b be
 d1:Apart p ch
 d2:Apart p be
 d3:Apart ch be
section
variable {hb h h2:Hp} {b:Nat} {x:DHarbour} {L:Sl (Sl DOption)} {wf:Value} {p p':Sl DOption} {ch be ch' be':Sl Int} {m0 m1 m0' m1':Int} {fo fo':Bool}
theorem zKx (H:h b=some (.cells (plC x L wf p ch be m0 m1 fo).toArray 191 (0,0))):h.lds (some ⟨b,0,none⟩) 12=some [.int .i64 x.forecast.tide.mean,x.forecast.tide.parts.val,x.forecast.surges.val,x.chart.points.val,x.chart.segments.val,x.fleet.val,.int .i64 x.regime.gap,.bool x.regime.noMeet,.int .i64 x.crew.tugs,.int .i64 x.crew.pilots,.int .i64 x.crew.rest,x.crew.moves.val]∧h.lds (some ⟨b,12,none⟩) 1=some [L.val]∧h.lds (some ⟨b,13,none⟩) 1=some [wf]∧h.lds (some ⟨b,14,none⟩) 1=some [p.val]∧h.lds (some ⟨b,15,none⟩) 1=some [ch.val]∧h.lds (some ⟨b,16,none⟩) 1=some [be.val]∧h.lds (some ⟨b,17,none⟩) 2=some [.int .i64 m0,.int .i64 m1]∧h.lds (some ⟨b,19,none⟩) 1=some [.bool fo]:=by
 unfold plC at H
 refine ⟨?_,?_,?_,?_,?_,?_,?_,?_⟩ <;> exact zx7 H rfl (by simp)
theorem PV.nbx (H:PV hb h b x L wf p ch be m0 m1 fo):h b ≠ none:=by rw [H.bx];exact fun e=>by cases e
theorem PV.pok (H:PV hb h b x L wf p ch be m0 m1 fo):p.Ok h:=H.rp.1.ok (by decide) fun y hy=>Enc.mono H.le (H.op y hy)
theorem PV.cok {pn:List Nat} (H:PV hb h b x L wf p ch be m0 m1 fo) (hc:ch.l=zs pn) (hp:∀ y ∈ pn,y < 100):ch.Ok h:=H.rc.1.ok (by decide) fun y hy=>by
 rw [hc] at hy
 obtain ⟨k,hk,rfl⟩:=List.mem_map.1 hy
 have:=hp k hk
 show I64 _;unfold I64;omega
theorem PV.grow (H:PV hb h b x L wf p ch be m0 m1 fo) (hle:h.le h2):PV hb h2 b x L wf p ch be m0 m1 fo :=
 ⟨Hp.le_trans H.le hle,H.ox,H.oL,H.nb,hle _ _ H.bx,H.rp.grow hle,H.op,H.rc.grow hle,H.rb.grow hle,H.d1,H.d2,H.d3⟩
theorem PV.mk2 (H:PV hb h b x L wf p ch be m0 m1 fo) (hle:hb.le h2) (rp:RowF 149 hb h2 b p') (op:∀ y ∈ p'.l,Enc.ok hb y) (rc:RowF 3 hb h2 b ch') (rb:RowF 3 hb h2 b be') (d1:Apart p' ch') (d2:Apart p' be') (d3:Apart ch' be') :
  PV hb (h2.ins b (.cells (plC x L wf p' ch' be' m0' m1' fo').toArray 191 (0,0))) b x L wf p' ch' be' m0' m1' fo':=by
 refine ⟨fun k o hk=>?_,H.ox,H.oL,H.nb,Hp.ins_same,rp.ins,op,rc.ins,rb.ins,d1,d2,d3⟩
 rw [Hp.ins_ne (fun e=>by subst e;rw [H.nb] at hk;cases hk)]
 exact hle k o hk
end
theorem zKy {x:Cx} {st:St} {KH:Hp→Prop} {t:TypeId} {b off:Nat} {u:Value} {xs xs':List Value} {e:TypeId} (ht:hasT x.P t=true) (hs:szT x.P t=1) (hu:SV.cells (.c (.v u))=[.v u]) (h1:u.oneCell'=true) (hb:st.h b=some (.cells xs.toArray e (0,0))) (hown:x.h0 b=none∨x.W0.own b) (hle:off+1≤xs.length) (hx:spl off [u] xs=xs')
  (hk:KH (st.h.ins b (.cells xs'.toArray e (0,0)))):zlL x st t (.c (.v (.pointer (some ⟨b,off,none⟩)))) (.c (.v u)) KH:=by
 refine zl3 ht hs hu h1 hb hown (by simpa using hle) ?_
 rw [List.toList_toArray,hx]
 exact hk
theorem zKz {x:Cx} {st:St} {KH:Hp→Prop} {t:TypeId} {b off:Nat} {u w:Value} {xs xs':List Value} {e:TypeId} (ht:hasT x.P t=true) (hs:szT x.P t=2) (h1:u.oneCell'=true) (h2:w.oneCell'=true) (hb:st.h b=some (.cells xs.toArray e (0,0))) (hown:x.h0 b=none∨x.W0.own b) (hle:off+2≤xs.length) (hx:spl off [u,w] xs=xs')
  (hk:KH (st.h.ins b (.cells xs'.toArray e (0,0)))):zlL x st t (.c (.v (.pointer (some ⟨b,off,none⟩)))) (.g [.v u,.v w]) KH:=by
 unfold zlL
 refine ⟨ht,rfl,?_,?_,b,off,xs.toArray,e,rfl,hb,hown,by rw [hs];simpa using hle,?_⟩
 ·show (([SC.v u,SC.v w]:List SC).all fun c=>c.val.oneCell')=true
  simp only [List.all_cons,List.all_nil,Bool.and_true,SC.val,h1,h2]
 ·rw [hs];rfl
 ·show KH (st.h.ins b (.cells (zbG off [u,w] xs.toArray.toList).toArray e (0,0)))
  rw [List.toList_toArray,show zbG off [u,w] xs=xs' from hx]
  exact hk
theorem zKA (a0 a1 b0 b1:Int) (h:Hp):Ct jV 191 [.agg #[.int .i64 a0,.int .i64 a1],.agg #[.int .i64 b0,.int .i64 b1]] h fun v h'=>v=.bool (zKt a0 a1 b0 b1)∧h'=h:=by
 have n1:Int.toNat (1:Int)=1:=rfl
 have z2:(0:Int) < ((2:Nat):Int):=by decide
 have o2:(1:Int) < ((2:Nat):Int):=by decide
 have o1:(0:Int)≤1:=by decide
 refine zdn (fun A W=>by simp) Tryz.func191 rfl rfl (by simp) fun W0=>?_
 repeat' first|refine Wa ?_|(simp only [go_sem,jq,jj,jy,jv,jk,jx,z2,o2,o1,Int.toNat_zero,n1,Nat.zero_mul,Nat.one_mul,Nat.zero_add,Nat.mul_one,Int.le_refl,implies_true,true_and,and_true,and_self];try rfl)|refine Wb ?_|fail
def zO7 (L:List (List POption)) (ch:List Int) (k:Nat) (p:List POption):Option (List POption):=if 0≤ch.getD k 0∧ch.getD k 0 < (L.getD k []).length then some (p ++ [(L.getD k []).getD (ch.getD k 0).toNat zFE]) else none
def plGo (L:List (List POption)) (ch:List Int):Nat→Option (List POption)
 | 0=>some []
 | k+1=>(plGo L ch k).bind (zO7 L ch k)
def oLB (o:Option (List POption)):List POption × Bool:=match o with|none=>([],false)|some s=>(s,true)
def zO8 (x:zOw) (calls:List DCall) (ch:List Int):List POption × Bool:=if (zAP x calls && decide (ch.length=calls.length))=true then oLB (plGo (zJu x calls) ch calls.length) else ([],false)
theorem zO9 {L:List (List POption)} {ch:List Int} {k:Nat} (h:plGo L ch k=none):∀ {n:Nat},k≤n→plGo L ch n=none
 | 0,hn=>by rw [← Nat.le_zero.1 hn,h]
 | n+1,hn=>by
  rcases Nat.lt_or_ge n k with hk|hk
  ·rw [show n+1=k by omega,h]
  ·rw [plGo,zO9 h hk];rfl
theorem zPa {L:List (List POption)} {ch:List Int} {k n:Nat} {p:List POption} (h:plGo L ch k=some p) (hb:¬ (0≤ch.getD k 0∧ch.getD k 0 < (L.getD k []).length)) (hk:k < n):plGo L ch n=none:=by
 refine zO9 (k:=k+1) ?_ hk
 rw [plGo,h,Option.bind_some,zO7,if_neg hb]
theorem zPb {L:List (List POption)} {ch:List Int} {k:Nat} {p:List POption} (h:plGo L ch k=some p) (hb:0≤ch.getD k 0∧ch.getD k 0 < (L.getD k []).length):plGo L ch (k+1)=some (p ++ [(L.getD k []).getD (ch.getD k 0).toNat zFE]):=by
 rw [plGo,h,Option.bind_some,zO7,if_pos hb]
theorem zKT {α:Type} [Enc α] [Foot α] {l:List α} {i:Nat} (hi:i < l.length):(Foot.foot l[i]).Sublist (l.flatMap Foot.foot):=by
 obtain ⟨a,b,e⟩:=List.append_of_mem (List.getElem_mem hi)
 have e2:l.flatMap Foot.foot=(a ++ l[i] :: b).flatMap Foot.foot:=congrArg (fun z=>z.flatMap Foot.foot) e
 rw [e2,List.flatMap_append,List.flatMap_cons]
 exact (List.sublist_append_left _ _).trans (List.sublist_append_right _ _)
theorem zKU {α:Type} [Enc α] [Foot α] {s:Sl α} {i:Nat} (hi:i < s.l.length):(Foot.foot s.l[i]).Sublist (Foot.foot s):=by
 rw [show Foot.foot s=_ from Sl.foot_ne (fun e=>by rw [e] at hi;cases hi)]
 exact (zKT hi).trans (List.sublist_cons_self _ _)
theorem zKV {α:Type} [Enc α] [Foot α] {h:Hp} {s:Sl α} (H:Foot.own h s) {i:Nat} (hi:i < s.l.length):Foot.own h s.l[i] :=
 (H (fun e=>by rw [e] at hi;cases hi)).2 _ (List.getElem_mem hi)
theorem zKW {α:Type} [Enc α] [Foot α] {h h':Hp} {s:Sl α} (H:Mine h h' s) {i:Nat} (hi:i < s.l.length):Mine h h' s.l[i] :=
 ⟨zKV H.1 hi,fun b hb=>H.2.1 b ((zKU hi).subset hb),H.2.2.sublist (zKU hi)⟩
theorem zPc {l:List DOption} {c:Int} (h0:0≤c) (hc:c.toNat < l.length):(l.map (Con.con (α:=DOption))).getD c.toNat zFE=Con.con l[c.toNat]:=by
 simp [List.getD_eq_getElem?_getD,hc]
set_option maxRecDepth 30000 in
theorem zPd (x:DHarbour) (a:Sl DCall) (m:Sl Int) (h:Hp) (hx:Enc.ok h x) (ha:a.Ok h) (hm:m.Ok h):Ct jV 47 [x.v,a.val,m.val] h fun v h'=>∃ s:Sl DOption,v=.tuple #[s.val,.bool (zO8 (Con.con x) a.l m.l).2]∧s.l.map (Con.con (α:=DOption))=(zO8 (Con.con x) a.l m.l).1∧s.Ok h'∧Mine h h' s:=by
 have hla:=ha.max
 have hlm:=hm.max
 refine zdn (fun A W=>by simp) Tryz.func47 rfl rfl (by simp) fun W0=>?_
 repeat' first|refine Wa ?_|refine zhF (fun _=>zAS x a _ hx ha) ?_|(simp only [go_sem,jq,jj,jy,jv,jk,jx];try rfl)|refine Wb ?_|fail
 rw [zAQ]
 refine zc9 rfl (fun hc=>?_) (fun hc=>?_)
 ·have hF:zO8 (Con.con x) a.l m.l=([],false):=by
   rw [zO8,if_neg]
   intro H
   rw [jJ,decide_eq_true_eq] at H
   rw [H.1,H.2] at hc
   simp at hc
  rw [hF]
  refine Wk ?_
  exact ⟨⟨none,0,[]⟩,rfl,rfl,znp,Mine.nil⟩
 obtain ⟨hc1,hc2⟩:=Bool.or_eq_false_iff.1 hc
 rw [Bool.not_eq_false'] at hc1
 have hlen:m.l.length=a.l.length:=by
  have h9:(m.l.length:Int)=a.l.length:=by simpa using hc2
  omega
 have hF:zO8 (Con.con x) a.l m.l=oLB (plGo (zJu (Con.con x) a.l) m.l a.l.length):=by
  rw [zO8,hc1,hlen,decide_eq_true rfl];rfl
 have h6:=zJy hc1
 have hz:a.l.length≤1048576:=by omega
 rw [hF]
 refine Wk ?_
 refine zm1 (ι:=Nat × List DOption × Hp) (fun i=>⟨[(2,true,.c (.v m.val)),(3,true,.c (.p 0 0)),(6,true,.c (.v (.slice none 0 0))),(7,true,.c (.v (.bool false))),(8,true,.c (.s 1)),(24,true,.c (.v a.val)),(25,true,.c (.v (.int .i64 a.l.length))),(26,true,.c (.v (.int .i64 i.1)))],[(0,.box 58 [.v (.int .i64 x.forecast.tide.mean),.v x.forecast.tide.parts.val,.v x.forecast.surges.val,.v x.chart.points.val,.v x.chart.segments.val,.v x.fleet.val,.v (.int .i64 x.regime.gap),.v (.bool x.regime.noMeet),.v (.int .i64 x.crew.tugs),.v (.int .i64 x.crew.pilots),.v (.int .i64 x.crew.rest),.v x.crew.moves.val]),(1,.row 149 4 i.2.1.length (i.2.1.flatMap Enc.enc))],i.2.2,2⟩) (fun i=>i.1≤a.l.length∧i.2.1.length=i.1∧plGo (zJu (Con.con x) a.l) m.l i.1=some (i.2.1.map Con.con)∧(∀ y ∈ i.2.1,Enc.ok i.2.2 y)∧Mines h i.2.2 i.2.1∧h.le i.2.2) (fun i=>a.l.length - i.1) (0,[],h) ⟨Nat.zero_le _,rfl,rfl,fun y hy=>(by cases hy),Mines.nil,Hp.le_refl _⟩ [0,1] ?_ ?_
 ·refine Evs ?_
  exact Gk
 rintro ⟨k,acc,hk⟩ ⟨hkl,hal,hgo,hacok,hacm,hle⟩
 simp only at hkl hal hgo hacok hacm hle
 have hak:=ha.mono hle
 have hxk:Enc.ok hk x:=Enc.mono hle hx
 refine Wk ?_
 refine zc9 rfl (fun hd=>?_) (fun hd=>?_)
 ·have hlt:=zjH hd
  repeat' first|refine Wa ?_|(simp only [go_sem,jq,jj,jy,jv,jk,jx,zkT hak hlt,hak.some hlt,hlt,jW];try rfl)|refine Wb ?_|fail
  refine zkr (zF4 x a.l[k] _ hxk (hak.el hlt)) rfl ?_
  rintro v h2 le2 ⟨s,rfl,es,oks,ms⟩
  have es:s.l.map (Con.con (α:=DOption))=zFU (Con.con x) a.l[k]:=es
  have hmk2:=(hm.mono hle).mono le2
  have hltm:k < m.l.length:=by omega
  have hltm2:(k:Int) < m.l.length:=by omega
  have hls:=oks.max
  have hle2:=Hp.le_trans hle le2
  have hgk:(zJu (Con.con x) a.l).getD k []=s.l.map (Con.con (α:=DOption)):=by rw [zJw hlt,es]
  have hmg:m.l.getD k 0=m.l[k]:=iget hltm
  repeat' first|refine Wa ?_|refine zhF (fun _=>zzn _ _ _) ?_|(simp only [go_sem,jq,jj,jy,jv,jk,jx,atI hmk2 hltm,hmk2.some hltm,hltm,hltm2,jW,jY,implies_true,true_and,and_true,and_self];try rfl)|refine Wb ?_|fail
  refine zc9 rfl (fun hq=>?_) (fun hq=>?_)
  ·refine Wk ?_
   rw [zPa hgo (by
    rw [hgk,hmg,zNa]
    intro H
    rw [decide_eq_true H.1,decide_eq_true H.2] at hq
    cases hq) hlt]
   exact ⟨⟨none,0,[]⟩,rfl,rfl,znp,Mine.nil⟩
  ·have hin:0≤m.l[k]∧m.l[k] < (s.l.length:Int):=by simpa using hq
   have hci:m.l[k].toNat < s.l.length:=by omega
   have hgo2:=zPb hgo (by rw [hgk,hmg,zNa];exact hin)
   rw [hgk,hmg,zPc hin.1 hci] at hgo2
   repeat' first|refine Wa ?_|(simp only [go_sem,jq,jj,jy,jv,jk,jx,atI hmk2 hltm,hmk2.some hltm,hltm,hltm2,zkZ oks hci,oks.some hci,hci,hin.1,hin.2,jW,jY,implies_true,true_and,and_true,and_self];try rfl)|refine Wb ?_|fail
   refine ⟨by simp only [maxLen];omega,by omega,?_⟩
   refine Wk ?_
   have hw:IntKind.i64.wrap ((k:Int)+1)=((k+1:Nat):Int):=zjA hlt (by omega)
   refine ⟨(k+1,acc ++ [s.l[m.l[k].toNat]],h2),[0,4],⟨hlt,?_,?_,fun y hy=>?_,Mines.snoc hacm hacok le2 hle (zKW ms hci),hle2⟩,by simp only;omega,?_⟩
   ·show (acc ++ _).length=k+1
    rw [List.length_append,hal];rfl
   ·rw [hgo2]
    show _=some ((acc ++ _).map _)
    rw [List.map_append];rfl
   ·rcases List.mem_append.1 hy with hy|hy
    ·exact Enc.mono le2 (hacok y hy)
    ·rw [List.mem_singleton.1 hy];exact oks.el hci
   refine Evs ?_
   rw [hw]
   simp only [List.flatMap_append,List.length_append]
   exact Gk
 ·have hge:=zjI hd
  obtain rfl:k=a.l.length:=by omega
  refine zc6 ?_
  refine Evs ?_
  refine zl5 1 acc rfl rfl rfl rfl (by decide) hacok h hle hacm fun q h' e2 e3 e4 e5=>?_
  refine Wk ?_
  rw [hgo]
  exact ⟨q,rfl,by rw [e2];rfl,e3,e5⟩
theorem zKX {q:DOption} {B:Nat} (hz:Sz.sz (Con.con q)≤B):q.pas.l.length≤B:=by
 have h2:Sz.sz (Con.con q)=Sz.sz (Con.con q.pas):=rfl
 rw [h2] at hz
 have:=znx hz
 rwa [znA] at this
abbrev wL (x:DHarbour) (a:DCall) (r:List Int):List Bool:=zFg (Con.con x.chart) ((zC2 (Con.con x.chart) a.src r).getD []) r.length
abbrev mL (x:DHarbour) (a:DCall) (r:List Int):List Int:=minL (Con.con x.chart) (zFz (Con.con x) a) r r.length
abbrev uL (x:DHarbour) (a:DCall) (r:List Int):List (List DWindow):=zFh (Con.con x.forecast) (Con.con x.chart) (zFz (Con.con x) a) r r.length
structure Voy (x:DHarbour) (a:DCall) (r:List Int) (m:Int) (pl l:List Int):Prop where
 hc:zz9 (Con.con x.chart)=true
 so:zAk (zFz (Con.con x) a)=true
 n0:0 < r.length
 n8:r.length≤8
 rt:zC2 (Con.con x.chart) a.src r=some pl
 pk:ptsK (Con.con x.chart).segments a.src r r.length=some pl
 rg:∀ i,i < r.length→0≤r.getD i 0∧r.getD i 0 < (Con.con x.chart).segments.length
 ml:(mL x a r).length=r.length
 mi:∀ i,i < r.length→1≤(mL x a r).getD i 0∧(mL x a r).getD i 0≤480
 sr:zFx (Con.con x.forecast) (Con.con x.chart) (zFz (Con.con x) a) a.src r m=some l
 hm:zBP ((uL x a r).getD 0 []) m=true
 sl:slK (wL x a r) (mL x a r) (uL x a r) m (r.length - 1)=some l
 ll:l.length=r.length
 li:∀ i,i < r.length→0≤l.getD i 0∧l.getD i 0≤2880
 lo:m+zGj (mL x a r) (r.length - 1)≤l.getD (r.length - 1) 0
 ar:zEh (Con.con x.chart) (zFz (Con.con x) a) r l=l.getD (r.length - 1) 0+(mL x a r).getD (r.length - 1) 0
 ps:zEl (Con.con x.chart) a.ship (zFz (Con.con x) a) a.src r l=pasL (Con.con x.chart) a.ship (zFz (Con.con x) a) pl r l r.length
theorem zPe {x:DHarbour} {a:DCall} {r:List Int} (hok:zAJ (Con.con x) a=true) (hcv:cvOk (Con.con x) a r=true) {m:Int} (h0:0≤m∧m≤2880) {l:List Int} (hs:zFx (Con.con x.forecast) (Con.con x.chart) (zFz (Con.con x) a) a.src r m=some l):∃ pl,Voy x a r m pl l:=by
 obtain ⟨_,hC,⟨hsi,hsh,hso⟩,_⟩:=zFA hok
 have hv:voOk (Con.con x.forecast) (Con.con x.chart) (zFz (Con.con x) a) a.src r=true:=by
  rw [cvOk,jJ] at hcv;exact hcv.2
 have hR:zDJ (Con.con x.chart) a.src r=true:=by
  rw [zFB hok,jJ] at hv;exact hv.1
 have hlen0:0 < r.length:=by
  rw [zFB hok,jJ,decide_eq_true_eq] at hv;exact hv.2
 obtain ⟨_,hin,pl,hptl,hpk,hplen,hpx⟩:=zDN hR
 have hrl:r.length≤8:=by have:=zEO hC (zDx hpk) hpx;omega
 have hrg:∀ i,i < r.length→0≤r.getD i 0∧r.getD i 0 < (Con.con x.chart).segments.length:=fun i hi=>by
  rw [iget hi];exact zDO hpk (Nat.le_refl _) i hi hi
 have hml:(mL x a r).length=r.length:=by rw [mL,minL,rmap_len]
 have hmi:∀ i,i < r.length→1≤(mL x a r).getD i 0∧(mL x a r).getD i 0≤480:=fun i hi=>by
  rw [mL,zGo hi]
  exact zGg (zGh hC (by have:=hrg i hi;omega))
 have h3:=hs
 rw [zFx,if_pos hv,zFn] at h3
 split at h3
 ·rename_i hm
  rw [show (zFh (Con.con x.forecast) (Con.con x.chart) (zFz (Con.con x) a) r r.length).length=r.length by rw [zFh,rmap_len]] at h3
  obtain ⟨h4,h5,h6⟩:=zGl h0 (fun i hi=>hmi i (by omega)) (by rw [hml];omega) h3
  have h5':∀ i,i < r.length→0≤l.getD i 0∧l.getD i 0≤2880:=fun i hi=>h5 i (by omega)
  have hpo:arOk (Con.con x.chart) (zFz (Con.con x) a) r l=true:=by
   rw [arOk,jJ,jJ,jJ,Bool.not_eq_true',decide_eq_false_iff_not,decide_eq_true_eq,decide_eq_true_eq,hsh]
   refine ⟨⟨⟨?_,hso⟩,hlen0⟩,by omega⟩
   rw [zDU,if_pos ⟨hC,fun i hi=>by
    rw [rmOk,decide_eq_true_eq];exact hrg i hi⟩]
   have:=zGp hC (fun i hi=>zDO hpk (Nat.le_refl _) i hi hi) hrl (k:=r.length) (Nat.le_refl _)
   rw [List.take_length] at this
   omega
  refine ⟨pl,hC,by rw [hsh];exact hso,hlen0,hrl,hptl,hpk,hrg,hml,hmi,hs,hm,h3,by omega,h5',h6,?_,?_⟩
  ·have h7:=h5' (r.length - 1) (by omega)
   have h8:=hmi (r.length - 1) (by omega)
   rw [mL,zGo (by omega)] at h8 ⊢
   rw [zEh,if_pos hpo,if_pos (by rw [In,jJ,decide_eq_true_eq,decide_eq_true_eq];exact h7),zjz (by omega)]
  ·rw [zEl,if_pos,hptl]
   ·rfl
   ·refine ⟨?_,fun i hi=>?_⟩
    ·rw [zEk,jJ,jJ,decide_eq_true_eq,hsh]
     exact ⟨⟨hR,hso⟩,by omega⟩
    ·rw [In,jJ,decide_eq_true_eq,decide_eq_true_eq];exact h5' i hi
 ·cases h3
theorem zPf {t t':Int} (h:t≤t'):∀ {l:List DWindow} {w w':DWindow},(∀ w ∈ l,w.src≤w.dst)→l.find? (fun w=>decide (t≤w.dst))=some w→l.find? (fun w=>decide (t'≤w.dst))=some w'→max w.src t≤max w'.src t'
 | [],w,w',_,h1,_=>by cases h1
 | y :: l,w,w',hw,h1,h2=>by
  have hy:=hw y (List.mem_cons_self ..)
  rw [List.find?_cons] at h1 h2
  by_cases c1:t≤y.dst
  ·rw [decide_eq_true c1] at h1
   obtain rfl:=Option.some.inj h1
   by_cases c2:t'≤y.dst
   ·rw [decide_eq_true c2] at h2
    obtain rfl:=Option.some.inj h2
    omega
   ·omega
  ·rw [decide_eq_false c1] at h1
   rw [decide_eq_false (by omega)] at h2
   exact zPf h (fun w hw'=>hw w (List.mem_cons_of_mem _ hw')) h1 h2
theorem zPg {l:List DWindow} (h:zBO l=true):∀ w ∈ l,0≤w.src∧w.src≤w.dst∧w.dst≤2880:=fun w hw=>by
 obtain ⟨i,hi,e⟩:=List.getElem_of_mem hw
 have h2:=of_decide_eq_true h i hi
 rw [zBN,decide_eq_true_eq,wget hi,e] at h2
 exact h2.1
theorem zPh {l:List DWindow} {t t':Int} (h:t≤t') (h1:¬ zBQ l t < 0) (h2:¬ zBQ l t' < 0):zBQ l t≤zBQ l t':=by
 unfold zBQ at h1 h2 ⊢
 by_cases hw:zBO l=true
 ·rw [if_pos hw] at h1 h2 ⊢
  rw [if_pos hw]
  cases e1:l.find? (fun w=>decide (t≤w.dst)) with
  | none=>rw [e1] at h1;exact absurd (show (-1:Int) < 0 by decide) h1
  | some w =>
   cases e2:l.find? (fun w=>decide (t'≤w.dst)) with
   | none=>rw [e2] at h2;exact absurd (show (-1:Int) < 0 by decide) h2
   | some w'=>exact zPf h (fun w hm=>(zPg hw w hm).2.1) e1 e2
 ·rw [if_neg hw] at h1;exact absurd (show (-1:Int) < 0 by decide) h1
theorem zPi {l:List DWindow} {t:Int} (h1:¬ zBQ l t < 0):zBP l (zBQ l t)=true:=by
 unfold zBQ at h1 ⊢
 by_cases hw:zBO l=true
 ·rw [if_pos hw] at h1 ⊢
  cases e1:l.find? (fun w=>decide (t≤w.dst)) with
  | none=>rw [e1] at h1;exact absurd (show (-1:Int) < 0 by decide) h1
  | some w =>
   have hm:=List.mem_of_find?_eq_some e1
   have h3:=List.find?_some e1
   have h3:t≤w.dst:=of_decide_eq_true h3
   have h4:=zPg hw w hm
   rw [zBP,List.any_eq_true]
   refine ⟨w,hm,?_⟩
   rw [In,jJ,decide_eq_true_eq,decide_eq_true_eq]
   show w.src≤max w.src t∧max w.src t≤w.dst
   omega
 ·rw [if_neg hw] at h1;exact absurd (show (-1:Int) < 0 by decide) h1
theorem zPj {w:List Bool} {m:List Int} {u:List (List DWindow)} {st:Int} (h0:zBP (u.getD 0 []) st=true):∀ {k:Nat} {l:List Int},slK w m u st k=some l→∀ i,i≤k→zBP (u.getD i []) (l.getD i 0)=true
 | 0,l,h,i,hi=>by
  rw [slK] at h
  rw [← Option.some.inj h,Nat.le_zero.1 hi]
  exact h0
 | k+1,l,h,i,hi=>by
  rw [slK] at h
  obtain ⟨p,hp,h⟩:=Option.bind_eq_some_iff.1 h
  have hl:=zFr hp
  unfold zFm at h
  dsimp only at h
  split at h
  ·cases h
  ·rename_i hc
   rw [not_or] at hc
   rw [← Option.some.inj h]
   rcases Nat.lt_or_ge k i with hik|hik
   ·obtain rfl:i=k+1:=by omega
    rw [zJd hl]
    exact zPi hc.1
   ·rw [zJc (by omega)]
    exact zPj h0 hp i hik
theorem zPk {w:List Bool} {m:List Int} {u:List (List DWindow)} {st st':Int} (hst:0≤st∧st≤2880) (hst':0≤st'∧st'≤2880) (hle:st≤st') (hm:∀ i,i < m.length→1≤m.getD i 0∧m.getD i 0≤480):∀ {k:Nat} {l l':List Int},k≤m.length→slK w m u st k=some l→slK w m u st' k=some l'→∀ i,i≤k→l.getD i 0≤l'.getD i 0
 | 0,l,l',_,h,h',i,hi=>by
  rw [slK] at h h'
  rw [← Option.some.inj h,← Option.some.inj h',Nat.le_zero.1 hi]
  exact hle
 | k+1,l,l',hk,h,h',i,hi=>by
  rw [slK] at h h'
  obtain ⟨p,hp,h⟩:=Option.bind_eq_some_iff.1 h
  obtain ⟨p',hp',h'⟩:=Option.bind_eq_some_iff.1 h'
  have hl:=zFr hp
  have hl':=zFr hp'
  have ih:=zPk hst hst' hle hm (k:=k) (by omega) hp hp'
  have b1:=(zGl hst hm (k:=k) (by omega) hp).2.1 k (Nat.le_refl _)
  have b2:=(zGl hst' hm (k:=k) (by omega) hp').2.1 k (Nat.le_refl _)
  have hmk:=hm k (by omega)
  have h1:=ih k (Nat.le_refl _)
  unfold zFm at h h'
  dsimp only at h h'
  rw [zjz (by omega)] at h h'
  split at h
  ·cases h
  ·rename_i hc
   split at h'
   ·cases h'
   ·rename_i hc'
    rw [not_or] at hc hc'
    rw [← Option.some.inj h,← Option.some.inj h']
    rcases Nat.lt_or_ge k i with hik|hik
    ·obtain rfl:i=k+1:=by omega
     rw [zJd hl,zJd hl']
     exact zPh (by omega) hc.1 hc'.1
    ·rw [zJc (by omega),zJc (by omega)]
     exact ih i hik
theorem Voy.mono {x:DHarbour} {a:DCall} {r:List Int} {m m':Int} {pl l pl' l':List Int} (V:Voy x a r m pl l) (V':Voy x a r m' pl' l') (h0:0≤m∧m≤2880) (h0':0≤m'∧m'≤2880) (hle:m≤m') (i:Nat) (hi:i < r.length):l.getD i 0≤l'.getD i 0 :=
 zPk h0 h0' hle (fun j hj=>V.mi j (by have:=V.ml;omega)) (by have:=V.ml;omega) V.sl V'.sl i (by omega)
theorem Voy.has {x:DHarbour} {a:DCall} {r:List Int} {m:Int} {pl l:List Int} (V:Voy x a r m pl l) (i:Nat) (hi:i < r.length):zBP ((uL x a r).getD i []) (l.getD i 0)=true:=zPj V.hm V.sl i (by omega)
def arrV (x:DHarbour) (a:DCall) (r l:List Int):Int:=l.getD (r.length - 1) 0+(mL x a r).getD (r.length - 1) 0
theorem Voy.opt {x:DHarbour} {a:DCall} {r:List Int} {m:Int} {pl l:List Int} (V:Voy x a r m pl l):zFH (Con.con x) a r m=(⟨m,arrV x a r l,zFF a.ready (arrV x a r l) (mL x a r),pasL (Con.con x.chart) a.ship (zFz (Con.con x) a) pl r l r.length⟩,decide (arrV x a r l≤2880)):=by
 have h1:=V.sr
 have h2:=V.ar
 have h3:=V.ps
 unfold zFH
 rw [show (Con.con x).forecast=Con.con x.forecast from rfl,show (Con.con x).chart=Con.con x.chart from rfl,h1]
 dsimp only
 rw [zFG,show (Con.con x).chart=Con.con x.chart from rfl,h2,h3]
 rfl
theorem Voy.cost {x:DHarbour} {a:DCall} {r:List Int} {m:Int} {pl l:List Int} (V:Voy x a r m pl l) (hr:0≤a.ready∧a.ready≤2880):zFF a.ready (arrV x a r l) (mL x a r)=arrV x a r l - a.ready - zGj (mL x a r) r.length:=by
 have hn:=V.n0
 have h1:=V.li (r.length - 1) (by omega)
 have h2:=V.mi (r.length - 1) (by omega)
 have hml:=V.ml
 have h8:=V.n8
 have h3:=zGm (m:=mL x a r) (fun i hi=>V.mi i (by omega)) (by omega) (z:=arrV x a r l - a.ready) (by unfold arrV;omega) (k:=r.length) (by omega)
 rw [List.take_of_length_le (by omega)] at h3
 rw [zFF,zjz (by unfold arrV;omega),h3]
theorem Voy.sum {x:DHarbour} {a:DCall} {r:List Int} {m:Int} {pl l:List Int} (V:Voy x a r m pl l):m+zGj (mL x a r) r.length≤arrV x a r l:=by
 have h1:=V.lo
 have hn:=V.n0
 obtain ⟨k,hk⟩:∃ k,r.length=k+1:=⟨r.length - 1,by omega⟩
 have e:zGj (mL x a r) r.length=zGj (mL x a r) (r.length - 1)+(mL x a r).getD (r.length - 1) 0:=by
  rw [show zGj (mL x a r) r.length=zGj (mL x a r) (r.length - 1+1) by rw [show r.length - 1+1=r.length by omega]]
  rfl
 unfold arrV
 omega
theorem zPl {x:DHarbour} {a:DCall} {r:List Int} (hok:zAJ (Con.con x) a=true) (hcv:cvOk (Con.con x) a r=true) {m:Int} (h0:0≤m∧m≤2880) (h2:(zFH (Con.con x) a r m).2=true):∃ pl l,Voy x a r m pl l∧arrV x a r l≤2880:=by
 cases hs:zFx (Con.con x.forecast) (Con.con x.chart) (zFz (Con.con x) a) a.src r m with
 | none =>
  unfold zFH at h2
  rw [show (Con.con x).forecast=Con.con x.forecast from rfl,show (Con.con x).chart=Con.con x.chart from rfl,hs] at h2
  cases h2
 | some l =>
  obtain ⟨pl,V⟩:=zPe hok hcv h0 hs
  refine ⟨pl,l,V,?_⟩
  rw [V.opt] at h2
  exact of_decide_eq_true h2
def zPm (opt:Int→POption × Bool) (lo due s:Int) (acc:List POption):Prop:=(∀ y ∈ acc,opt y.start=(y,true)∧lo≤y.start∧y.start≤due∧(y.start - lo) % 15=0∧y.start < s)∧acc.Pairwise (fun y z=>y.start < z.start)∧acc.length≤8
theorem zPn {opt:Int→POption × Bool} {lo due:Int} (hlo:0≤lo) (hdue:due≤2880) (hst:∀ m,(opt m).2=true→(opt m).1.start=m):∀ {f:Nat} {s:Int} {acc:List POption},lo≤s→s≤3000→(s - lo) % 15=0→zPm opt lo due s acc→zPm opt lo due 3000 (zFT opt due f s acc)
 | 0,s,acc,h1,h2,h3,H=>⟨fun y hy=>by
   obtain ⟨a1,a2,a3,a4,a5⟩:=H.1 y hy
   exact ⟨a1,a2,a3,a4,by omega⟩,H.2.1,H.2.2⟩
 | f+1,s,acc,h1,h2,h3,H=>by
  unfold zFT
  split
  ·rename_i hc
   rw [zjz (by omega)]
   refine zPn hlo hdue hst (by omega) (by omega) (by omega) ?_
   split
   ·rename_i ho
    have hs:=hst s ho
    refine ⟨fun y hy=>?_,?_,?_⟩
    ·rcases List.mem_append.1 hy with hy|hy
     ·obtain ⟨a1,a2,a3,a4,a5⟩:=H.1 y hy
      exact ⟨a1,a2,a3,a4,by omega⟩
     ·rw [List.mem_singleton.1 hy,hs]
      refine ⟨?_,h1,hc.1,h3,by omega⟩
      rw [← ho]
    ·rw [List.pairwise_append]
     refine ⟨H.2.1,List.pairwise_singleton ..,fun y hy z hz=>?_⟩
     rw [List.mem_singleton.1 hz,hs]
     exact (H.1 y hy).2.2.2.2
    ·rw [List.length_append,List.length_singleton];omega
   ·exact ⟨fun y hy=>by
     obtain ⟨a1,a2,a3,a4,a5⟩:=H.1 y hy
     exact ⟨a1,a2,a3,a4,by omega⟩,H.2.1,H.2.2⟩
  ·exact ⟨fun y hy=>by
    obtain ⟨a1,a2,a3,a4,a5⟩:=H.1 y hy
    exact ⟨a1,a2,a3,a4,by omega⟩,H.2.1,H.2.2⟩
theorem zPo {x:zOw} {a:DCall} {r:List Int} {m:Int} (h:(zFH x a r m).2=true):(zFH x a r m).1.start=m:=by
 unfold zFH at h ⊢
 split at h
 ·cases h
 ·rfl
theorem zPp {x:zOw} {a:DCall} (h:zE5 x.chart a.src a.dst=none):zFU x a=[]:=by
 rw [zFU]
 split
 ·rw [h]
 ·rfl
theorem zPq {x:DHarbour} {a:DCall} {r:List Int} (hok:zAJ (Con.con x) a=true) (hb:zE5 (Con.con x.chart) a.src a.dst=some r):zPm (zFH (Con.con x) a r) a.ready a.due 3000 (zFU (Con.con x) a):=by
 obtain ⟨_,_,_,_,_,_,_,_,_,_,hr0,hr1,hr2,hr3⟩:=zFA hok
 rw [zFU,if_pos hok,show (Con.con x).chart=Con.con x.chart from rfl,hb]
 dsimp only
 exact zPn hr0 hr3 (fun m h=>zPo h) (Int.le_refl _) (by omega) (by rw [Int.sub_self];rfl) ⟨fun y hy=>(by cases hy),List.Pairwise.nil,Nat.zero_le _⟩
theorem zPr {x:DHarbour} {a:DCall} {y:POption} (hy:y ∈ zFU (Con.con x) a):zOX (Con.con x) a y=true:=by
 cases hok:zAJ (Con.con x) a with
 | false=>rw [zFY hok] at hy;cases hy
 | true =>
  cases hb:zE5 (Con.con x.chart) a.src a.dst with
  | none=>rw [zPp (show zE5 (Con.con x).chart a.src a.dst=none from hb)] at hy;cases hy
  | some r =>
   obtain ⟨h1,h2,h3,h4,_⟩:=(zPq hok hb).1 y hy
   obtain ⟨_,_,_,_,_,_,_,_,_,_,hr0,hr1,hr2,hr3⟩:=zFA hok
   have hcv:=zFX hok hb
   obtain ⟨pl,l,V,hle⟩:=zPl hok hcv (m:=y.start) (by omega) (by rw [h1])
   have hseg:y.pas.map (·.seg)=r:=by
    have e:=V.opt
    rw [h1] at e
    have e2:=congrArg (fun z=>z.1.pas) e
    dsimp only at e2
    rw [e2]
    refine List.ext_getElem (by rw [List.length_map,zEo]) fun i h5 h6=>?_
    simp only [pasL,List.map_map,List.getElem_map,List.getElem_range,Function.comp,zEj]
    rw [iget h6]
   rw [zOX,hseg,zOT,if_pos,h1]
   ·rw [Bool.true_and,zOQ];exact decide_eq_true rfl
   ·rw [jJ,jJ,jJ,In,jJ,decide_eq_true_eq,decide_eq_true_eq]
    exact ⟨⟨⟨hok,h2,h3⟩,hcv⟩,by rw [h1]⟩
def picks:List (List POption)→List Nat→List POption
 | l :: L,k :: ks=>l.getD k zFE :: picks L ks
 | _,_=>[]
def inR:List (List POption)→List Nat→Prop
 | [],[]=>True
 | l :: L,k :: ks=>k < l.length∧inR L ks
 | _,_=>False
def zPs (x:zOw):List POption→List POption→Prop
 | _,[]=>True
 | p,o :: os=>zJT x p o=true∧zPs x (p ++ [o]) os
theorem zPt {x:zOw}:∀ {L:List (List POption)} {p:List POption} {ch:List Nat} {y:List Nat × Int},y ∈ zJV x L p ch ↔ ∃ ks,inR L ks∧zPs x p (picks L ks)∧y=(ch ++ ks,sumC (p ++ picks L ks))
 | [],p,ch,y=>by
  rw [zJV,List.mem_singleton]
  constructor
  ·rintro rfl
   exact ⟨[],trivial,trivial,by rw [picks.eq_def];simp⟩
  ·rintro ⟨ks,h1,h2,rfl⟩
   cases ks with
   | nil=>rw [picks.eq_def];simp
   | cons k ks=>exact h1.elim
 | l :: L,p,ch,y=>by
  rw [zJV,List.mem_flatMap]
  constructor
  ·rintro ⟨k,hk,hy⟩
   split at hy
   ·rename_i hf
    obtain ⟨ks,h1,h2,rfl⟩:=zPt.1 hy
    exact ⟨k :: ks,⟨List.mem_range.1 hk,h1⟩,⟨hf,h2⟩,by rw [picks,List.append_assoc,List.append_assoc];rfl⟩
   ·cases hy
  ·rintro ⟨ks,h1,h2,rfl⟩
   cases ks with
   | nil=>exact h1.elim
   | cons k ks =>
    obtain ⟨h1,h3⟩:=h1
    rw [picks] at h2
    refine ⟨k,List.mem_range.2 h1,?_⟩
    rw [if_pos h2.1]
    exact zPt.2 ⟨ks,h3,h2.2,by rw [picks,List.append_assoc,List.append_assoc];rfl⟩
theorem zPu:∀ {l:List (List Nat × Int)} {st:BSt} {y:List Nat × Int},l.foldl upd st=some y→(y ∈ l∨st=some y)∧(∀ z ∈ l,y.2≤z.2)∧∀ z,st=some z→y.2≤z.2
 | [],st,y,h=>⟨.inr h,fun z hz=>(by cases hz),fun z hz=>by rw [show st=some y from h] at hz;rw [Option.some.inj hz];exact Int.le_refl _⟩
 | a :: l,st,y,h=>by
  rw [List.foldl_cons] at h
  obtain ⟨h1,h2,h3⟩:=zPu h
  cases st with
  | none =>
   have h4:=h3 a rfl
   refine ⟨.inl ?_,fun z hz=>?_,fun z hz=>by cases hz⟩
   ·rcases h1 with h1|h1
    ·exact List.mem_cons_of_mem _ h1
    ·rw [← Option.some.inj h1];exact List.mem_cons_self ..
   ·rcases List.mem_cons.1 hz with rfl|hz
    ·exact h4
    ·exact h2 z hz
  | some s =>
   obtain ⟨b,m⟩:=s
   by_cases hm:a.2 < m
   ·rw [show upd (some (b,m)) a=some a by rw [upd,if_pos hm]] at h1 h3
    have h4:=h3 a rfl
    refine ⟨.inl ?_,fun z hz=>?_,fun z hz=>?_⟩
    ·rcases h1 with h1|h1
     ·exact List.mem_cons_of_mem _ h1
     ·rw [← Option.some.inj h1];exact List.mem_cons_self ..
    ·rcases List.mem_cons.1 hz with rfl|hz
     ·exact h4
     ·exact h2 z hz
    ·rw [← Option.some.inj hz];show y.2≤m;omega
   ·rw [show upd (some (b,m)) a=some (b,m) by rw [upd,if_neg hm]] at h1 h3
    have h4:y.2≤m:=h3 (b,m) rfl
    refine ⟨?_,fun z hz=>?_,fun z hz=>?_⟩
    ·rcases h1 with h1|h1
     ·exact .inl (List.mem_cons_of_mem _ h1)
     ·exact .inr h1
    ·rcases List.mem_cons.1 hz with rfl|hz
     ·omega
     ·exact h2 z hz
    ·rw [← Option.some.inj hz];exact h4
theorem zPv:∀ {l:List (List Nat × Int)} {st:BSt},l.foldl upd st=none→l=[]∧st=none
 | [],st,h=>⟨rfl,h⟩
 | a :: l,st,h=>by
  rw [List.foldl_cons] at h
  have h1:=(zPv h).2
  cases st with
  | none=>cases h1
  | some s =>
   obtain ⟨b,m⟩:=s
   rw [upd] at h1
   split at h1 <;> cases h1
theorem zPw:∀ {L:List (List POption)} {ks:List Nat},inR L ks→ks.length=L.length
 | [],[],_=>rfl
 | l :: L,k :: ks,h=>by rw [List.length_cons,List.length_cons,zPw h.2]
 | [],k :: ks,h=>h.elim
 | l :: L,[],h=>h.elim
theorem zPx:∀ {L:List (List POption)} {ks:List Nat},inR L ks→(picks L ks).length=L.length
 | [],[],_=>rfl
 | l :: L,k :: ks,h=>by rw [picks,List.length_cons,List.length_cons,zPx h.2]
 | [],k :: ks,h=>h.elim
 | l :: L,[],h=>h.elim
theorem zPy:∀ {L:List (List POption)} {ks:List Nat},inR L ks→∀ i,i < L.length→ks.getD i 0 < (L.getD i []).length∧(picks L ks).getD i zFE=(L.getD i []).getD (ks.getD i 0) zFE
 | [],[],_,i,hi=>absurd hi (Nat.not_lt_zero i)
 | l :: L,k :: ks,h,0,hi=>⟨h.1,rfl⟩
 | l :: L,k :: ks,h,i+1,hi=>by
  have:=zPy h.2 i (by simpa using hi)
  simpa [picks] using this
 | [],k :: ks,h,i,_=>h.elim
 | l :: L,[],h,i,_=>h.elim
theorem zPz:∀ {L:List (List POption)} {ks:List Nat},ks.length=L.length→(∀ i,i < L.length→ks.getD i 0 < (L.getD i []).length)→inR L ks
 | [],[],_,_=>trivial
 | l :: L,k :: ks,hl,h=>⟨h 0 (by simp),zPz (by simpa using hl) fun i hi=>by have:=h (i+1) (by simpa using hi);simpa using this⟩
 | [],k :: ks,hl,_=>by cases hl
 | l :: L,[],hl,_=>by cases hl
theorem zPA {x:zOw}:∀ {l p:List POption},zPs x p l ↔ ∀ i,i < l.length→zJT x (p ++ l.take i) (l.getD i zFE)=true
 | [],p=>⟨fun _ i hi=>absurd hi (Nat.not_lt_zero i),fun _=>trivial⟩
 | o :: l,p=>by
  rw [zPs,zPA (l:=l)]
  constructor
  ·rintro ⟨h1,h2⟩ i hi
   cases i with
   | zero=>simpa using h1
   | succ i =>
    have:=h2 i (by simpa using hi)
    simpa using this
  ·intro h
   refine ⟨by simpa using h 0 (by simp),fun i hi=>?_⟩
   have:=h (i+1) (by simpa using hi)
   simpa using this
theorem zPB {L:List (List POption)} {ch:List Int}:∀ {k:Nat},(∀ i,i < k→0≤ch.getD i 0∧ch.getD i 0 < (L.getD i []).length)→plGo L ch k=some ((List.range k).map fun i=>(L.getD i []).getD (ch.getD i 0).toNat zFE)
 | 0,_=>rfl
 | k+1,h=>by
  rw [zPb (zPB fun i hi=>h i (by omega)) (h k (Nat.lt_succ_self k)),List.range_succ,List.map_append]
  rfl
theorem zPC {L:List (List POption)} {ch:List Int}:∀ {k:Nat} {p:List POption},plGo L ch k=some p→∀ i,i < k→0≤ch.getD i 0∧ch.getD i 0 < (L.getD i []).length
 | 0,p,_,i,hi=>absurd hi (Nat.not_lt_zero i)
 | k+1,p,h,i,hi=>by
  rw [plGo] at h
  obtain ⟨q,h1,h2⟩:=Option.bind_eq_some_iff.1 h
  rcases Nat.lt_or_ge i k with hk|hk
  ·exact zPC h1 i hk
  ·obtain rfl:i=k:=by omega
   rw [zO7] at h2
   split at h2
   ·assumption
   ·cases h2
theorem zPD {w:List Nat} {i:Nat}:(zs w).getD i 0=((w.getD i 0:Nat):Int):=by
 rw [zs,List.getD_eq_getElem?_getD,List.getD_eq_getElem?_getD,List.getElem?_map]
 cases w[i]? <;> rfl
theorem zPE {x:zOw} {calls:List DCall} {ks:List Nat} (hc:zAP x calls=true) (h:inR (zJu x calls) ks):zO8 x calls (zs ks)=(picks (zJu x calls) ks,true):=by
 have hl:(zJu x calls).length=calls.length:=List.length_map ..
 have h1:=zPw h
 have h2:(zs ks).length=ks.length:=List.length_map ..
 rw [zO8,if_pos (by rw [hc,Bool.true_and,decide_eq_true_eq];omega),zPB fun i hi=>?_]
 ·rw [oLB]
  congr 1
  refine List.ext_getElem (by rw [List.length_map,List.length_range,zPx h,hl]) fun i h3 h4=>?_
  have h5:=zPy h i (by rw [← zPx h];exact h4)
  rw [List.getElem_map,List.getElem_range,zPD,jW,← h5.2,List.getD_eq_getElem?_getD,List.getElem?_eq_getElem h4,Option.getD_some]
 ·have h5:=zPy h i (by omega)
  rw [zPD];omega
theorem zPF {x:zOw} {calls:List DCall} {ch:List Int} (h:(zO8 x calls ch).2=true):zAP x calls=true∧∃ ks,inR (zJu x calls) ks∧ch=zs ks:=by
 have hl:(zJu x calls).length=calls.length:=List.length_map ..
 rw [zO8] at h
 split at h
 ·rename_i hc
  rw [jJ,decide_eq_true_eq] at hc
  refine ⟨hc.1,ch.map Int.toNat,?_⟩
  cases hp:plGo (zJu x calls) ch calls.length with
  | none=>rw [hp] at h;cases h
  | some p =>
   have h1:=zPC hp
   have h2:∀ i,(ch.map Int.toNat).getD i 0=(ch.getD i 0).toNat:=fun i=>by
    rw [List.getD_eq_getElem?_getD,List.getD_eq_getElem?_getD,List.getElem?_map]
    cases ch[i]? <;> rfl
   refine ⟨zPz (by rw [List.length_map];omega) fun i hi=>?_,?_⟩
   ·have:=h1 i (by omega)
    rw [h2];omega
   ·rw [zs,List.map_map]
    refine (List.ext_getElem (List.length_map ..) fun i h3 h4=>?_).symm
    have:=h1 i (by omega)
    rw [List.getD_eq_getElem?_getD,List.getElem?_eq_getElem h4,Option.getD_some] at this
    rw [List.getElem_map]
    show ((ch[i].toNat:Nat):Int)=ch[i]
    omega
 ·cases h
theorem zPG {x:zOw} {calls:List DCall} {i:Nat} (hi:i < calls.length):(zJu x calls).getD i []=zFU x (calls.getD i dC):=by
 rw [zJu,List.getD_eq_getElem?_getD,List.getElem?_map,List.getD_eq_getElem?_getD,List.getElem?_eq_getElem hi];rfl
theorem zPH {x:zOw} {calls:List DCall} {ks:List Nat} (h:inR (zJu x calls) ks) (i:Nat) (hi:i < calls.length):(picks (zJu x calls) ks).getD i zFE ∈ zFU x (calls.getD i dC):=by
 have hl:(zJu x calls).length=calls.length:=List.length_map ..
 obtain ⟨h1,h2⟩:=zPy h i (by omega)
 rw [h2]
 rw [zPG hi] at h1 ⊢
 exact zJX h1
theorem zPI {x:DHarbour} {calls:List DCall} {ks:List Nat} (hc:zAP (Con.con x) calls=true) (h:inR (zJu (Con.con x) calls) ks):zO3 (Con.con x) calls (picks (zJu (Con.con x) calls) ks)=true ↔ zPs (Con.con x) [] (picks (zJu (Con.con x) calls) ks):=by
 have hl:(zJu (Con.con x) calls).length=calls.length:=List.length_map ..
 have hp:=zPx h
 rw [zO3,hc,Bool.true_and,jJ,decide_eq_true_eq,decide_eq_true_eq,zPA]
 constructor
 ·rintro ⟨_,h2⟩ i hi
  have:=h2 i (by omega)
  rw [ipAt,jJ] at this
  rw [List.nil_append];exact this.2
 ·intro h2
  refine ⟨by omega,fun i hi=>?_⟩
  have:=h2 i (by omega)
  rw [List.nil_append] at this
  rw [ipAt,jJ]
  exact ⟨zPr (zPH h i hi),this⟩
theorem zPJ {x:DHarbour} {calls:List DCall}:∀ l ∈ zJu (Con.con x) calls,∀ o ∈ l,0≤o.cost∧o.cost≤2880:=fun l hl o ho=>by
 rw [zJu] at hl
 obtain ⟨a,_,rfl⟩:=List.mem_map.1 hl
 exact zGr o ho
theorem zPK {x:DHarbour} {calls:List DCall} (hc:zAP (Con.con x) calls=true) :
  ((zKf (Con.con x) calls).2.2=false∧(zKf (Con.con x) calls).1=[]∧∀ ks,inR (zJu (Con.con x) calls) ks→¬ zPs (Con.con x) [] (picks (zJu (Con.con x) calls) ks)) ∨
  ((zKf (Con.con x) calls).2.2=true∧∃ w,(zKf (Con.con x) calls).1=zs w∧inR (zJu (Con.con x) calls) w∧zPs (Con.con x) [] (picks (zJu (Con.con x) calls) w)∧(zKf (Con.con x) calls).2.1=sumC (picks (zJu (Con.con x) calls) w) ∧
   ∀ ks,inR (zJu (Con.con x) calls) ks→zPs (Con.con x) [] (picks (zJu (Con.con x) calls) ks)→sumC (picks (zJu (Con.con x) calls) w)≤sumC (picks (zJu (Con.con x) calls) ks)):=by
 rw [zKf,if_pos hc,zJ2 fun l hl o ho=>(zPJ l hl o ho).1]
 cases hr:(zJV (Con.con x) (zJu (Con.con x) calls) [] []).foldl upd none with
 | none =>
  refine .inl ⟨rfl,rfl,fun ks h1 h2=>?_⟩
  have h3:=(zPv hr).1
  have h4:(([]:List Nat) ++ ks,sumC ([] ++ picks (zJu (Con.con x) calls) ks)) ∈ zJV (Con.con x) (zJu (Con.con x) calls) [] []:=zPt.2 ⟨ks,h1,h2,rfl⟩
  rw [h3] at h4;cases h4
 | some y =>
  obtain ⟨h1,h2,_⟩:=zPu hr
  rcases h1 with h1|h1
  case inr=>cases h1
  obtain ⟨w,h3,h4,rfl⟩:=zPt.1 h1
  rw [List.nil_append,List.nil_append] at *
  refine .inr ⟨rfl,w,rfl,h3,h4,rfl,fun ks h5 h6=>?_⟩
  have:=h2 _ (zPt.2 ⟨ks,h5,h6,rfl⟩)
  exact this
theorem zPL {x:zOw} {calls:List DCall} (h:zAP x calls=true):calls.length≤6:=by
 rw [zAP,jJ,jJ,decide_eq_true_eq] at h
 exact h.1.2
theorem zPM {x:DHarbour} {calls:List DCall} {ks:List Nat} (hc:zAP (Con.con x) calls=true) (h:inR (zJu (Con.con x) calls) ks):zzp (picks (zJu (Con.con x) calls) ks)=sumC (picks (zJu (Con.con x) calls) ks):=by
 have hl:(zJu (Con.con x) calls).length=calls.length:=List.length_map ..
 have hp:=zPx h
 have h6:=zPL hc
 refine zKr (by omega) fun o ho=>?_
 obtain ⟨i,hi,rfl⟩:=List.getElem_of_mem ho
 have:=zPH h i (by omega)
 have e:(picks (zJu (Con.con x) calls) ks).getD i zFE=(picks (zJu (Con.con x) calls) ks)[i]:=by rw [List.getD_eq_getElem?_getD,List.getElem?_eq_getElem hi];rfl
 rw [e] at this
 exact zGr _ this
theorem zPN {x:DHarbour} {calls:List DCall} (hc:zAP (Con.con x) calls=true) (ot:List Int) :
  ((zKf (Con.con x) calls).2.2=false→(zKf (Con.con x) calls).1=[]∧¬ ((zO8 (Con.con x) calls ot).2=true∧zO3 (Con.con x) calls (zO8 (Con.con x) calls ot).1=true)) ∧
  ((zKf (Con.con x) calls).2.2=true→(zO8 (Con.con x) calls (zKf (Con.con x) calls).1).2=true∧zO3 (Con.con x) calls (zO8 (Con.con x) calls (zKf (Con.con x) calls).1).1=true ∧
   zzp (zO8 (Con.con x) calls (zKf (Con.con x) calls).1).1=(zKf (Con.con x) calls).2.1 ∧
   ((zO8 (Con.con x) calls ot).2=true→zO3 (Con.con x) calls (zO8 (Con.con x) calls ot).1=true→(zKf (Con.con x) calls).2.1≤zzp (zO8 (Con.con x) calls ot).1) ∧
   (zO8 (Con.con x) calls (zKf (Con.con x) calls).1).1.length=calls.length):=by
 have hl:(zJu (Con.con x) calls).length=calls.length:=List.length_map ..
 rcases zPK hc with ⟨h1,h2,h3⟩|⟨h1,w,h2,h3,h4,h5,h6⟩
 ·refine ⟨fun _=>⟨h2,fun ⟨h,hp⟩=>?_⟩,fun h=>by rw [h1] at h;cases h⟩
  obtain ⟨_,ks,hk,rfl⟩:=zPF h
  rw [zPE hc hk] at hp
  exact h3 ks hk ((zPI hc hk).1 hp)
 ·refine ⟨fun h=>(by rw [h1] at h;cases h),fun _=>?_⟩
  rw [h2,h5,zPE hc h3]
  refine ⟨rfl,(zPI hc h3).2 h4,zPM hc h3,fun h hp=>?_,by rw [zPx h3,hl]⟩
  obtain ⟨_,ks,hk,rfl⟩:=zPF h
  rw [zPE hc hk] at hp ⊢
  show _≤zzp (picks _ _)
  rw [zPM hc hk]
  exact h6 ks hk ((zPI hc hk).1 hp)
theorem zPO {c:zOv} {r:DRegime} {o:POption} {best:Int} {p:POption} (ho:0≤o.cost∧o.cost≤2880) (hp:0≤p.cost∧p.cost≤2880):stP c r o best p=if (best < 0∨o.cost+p.cost < best)∧zBa c r o.pas p.pas=false then o.cost+p.cost else best:=by
 rw [stP,zjz (by omega)]
 by_cases h1:best < 0∨o.cost+p.cost < best
 ·cases hq:zBa c r o.pas p.pas with
  | false=>rw [if_pos (by simpa using h1),if_pos ⟨h1,rfl⟩]
  | true=>rw [if_neg (by simp),if_neg (by simp)]
 ·rw [if_neg (by simp only [jJ,jQ,decide_eq_true_eq];exact fun h=>h1 h.1),if_neg fun h=>h1 h.1]
def zPP (best:Int) (S:POption→POption→Prop):Prop:=(best=-1∧∀ o p,¬ S o p)∨(0≤best∧(∃ o p,S o p∧o.cost+p.cost=best)∧∀ o p,S o p→best≤o.cost+p.cost)
theorem zPQ {c:zOv} {r:DRegime} {o:POption} (ho:0≤o.cost∧o.cost≤2880):∀ {b:List POption} {best:Int} {S:POption→POption→Prop},(∀ p ∈ b,0≤p.cost∧p.cost≤2880)→zPP best S →
  zPP (b.foldl (stP c r o) best) (fun q p=>S q p∨(q=o∧p ∈ b∧zBa c r o.pas p.pas=false))
 | [],best,S,_,H=>by
  rcases H with ⟨h1,h2⟩|⟨h1,⟨q,p,h2,h3⟩,h4⟩
  ·exact .inl ⟨h1,fun q p h=>by rcases h with h|⟨_,h,_⟩;exact h2 q p h;cases h⟩
  ·exact .inr ⟨h1,⟨q,p,.inl h2,h3⟩,fun q p h=>by rcases h with h|⟨_,h,_⟩;exact h4 q p h;cases h⟩
 | y :: b,best,S,hb,H=>by
  have hy:=hb y (List.mem_cons_self ..)
  rw [List.foldl_cons,zPO ho hy]
  have key:zPP (if (best < 0∨o.cost+y.cost < best)∧zBa c r o.pas y.pas=false then o.cost+y.cost else best) (fun q p=>S q p∨(q=o∧p=y∧zBa c r o.pas y.pas=false)):=by
   split
   ·rename_i hc
    refine .inr ⟨by omega,⟨o,y,.inr ⟨rfl,rfl,hc.2⟩,rfl⟩,fun q p h=>?_⟩
    rcases h with h|⟨rfl,rfl,_⟩
    ·rcases H with ⟨_,h2⟩|⟨h1,_,h4⟩
     ·exact (h2 q p h).elim
     ·have:=h4 q p h;omega
    ·exact Int.le_refl _
   ·rename_i hc
    rcases H with ⟨h1,h2⟩|⟨h1,⟨q,p,h2,h3⟩,h4⟩
    ·refine .inl ⟨h1,fun q p h=>?_⟩
     rcases h with h|⟨_,_,h⟩
     ·exact h2 q p h
     ·exact hc ⟨.inl (by omega),h⟩
    ·refine .inr ⟨h1,⟨q,p,.inl h2,h3⟩,fun q p h=>?_⟩
     rcases h with h|⟨rfl,rfl,h⟩
     ·exact h4 q p h
     ·rcases Int.lt_or_le (q.cost+p.cost) best with h9|h9
      ·exact (hc ⟨.inr h9,h⟩).elim
      ·exact h9
  have:=zPQ (c:=c) (r:=r) ho (b:=b) (fun p hp=>hb p (List.mem_cons_of_mem _ hp)) key
  have e:(fun q p=>(S q p∨(q=o∧p=y∧zBa c r o.pas y.pas=false))∨(q=o∧p ∈ b∧zBa c r o.pas p.pas=false))=fun q p=>S q p∨(q=o∧p ∈ y :: b∧zBa c r o.pas p.pas=false):=by
   funext q p
   refine propext ⟨fun h=>?_,fun h=>?_⟩
   ·rcases h with (h|⟨h1,h2,h3⟩)|⟨h1,h2,h3⟩
    ·exact .inl h
    ·exact .inr ⟨h1,by rw [h2];exact List.mem_cons_self ..,by rw [h2];exact h3⟩
    ·exact .inr ⟨h1,List.mem_cons_of_mem _ h2,h3⟩
   ·rcases h with h|⟨h1,h2,h3⟩
    ·exact .inl (.inl h)
    ·rcases List.mem_cons.1 h2 with h2|h2
     ·exact .inl (.inr ⟨h1,h2,by rw [← h2];exact h3⟩)
     ·exact .inr ⟨h1,h2,h3⟩
  rw [e] at this
  exact this
theorem zPR {c:zOv} {r:DRegime} {b:List POption} (hb:∀ p ∈ b,0≤p.cost∧p.cost≤2880):∀ {a:List POption} {best:Int} {S:POption→POption→Prop},(∀ p ∈ a,0≤p.cost∧p.cost≤2880)→zPP best S →
  zPP (a.foldl (fun best o=>b.foldl (stP c r o) best) best) (fun q p=>S q p∨(q ∈ a∧p ∈ b∧zBa c r q.pas p.pas=false))
 | [],best,S,_,H=>by
  rcases H with ⟨h1,h2⟩|⟨h1,⟨q,p,h2,h3⟩,h4⟩
  ·exact .inl ⟨h1,fun q p h=>by rcases h with h|⟨h,_⟩;exact h2 q p h;cases h⟩
  ·exact .inr ⟨h1,⟨q,p,.inl h2,h3⟩,fun q p h=>by rcases h with h|⟨h,_⟩;exact h4 q p h;cases h⟩
 | o :: a,best,S,ha,H=>by
  have:=zPR (c:=c) (r:=r) hb (a:=a) (fun p hp=>ha p (List.mem_cons_of_mem _ hp)) (zPQ (c:=c) (r:=r) (ha o (List.mem_cons_self ..)) hb H)
  rw [List.foldl_cons]
  have e:(fun q p=>(S q p∨(q=o∧p ∈ b∧zBa c r o.pas p.pas=false))∨(q ∈ a∧p ∈ b∧zBa c r q.pas p.pas=false))=fun q p=>S q p∨(q ∈ o :: a∧p ∈ b∧zBa c r q.pas p.pas=false):=by
   funext q p
   refine propext ⟨fun h=>?_,fun h=>?_⟩
   ·rcases h with (h|⟨h1,h2,h3⟩)|⟨h1,h2,h3⟩
    ·exact .inl h
    ·exact .inr ⟨by rw [h1];exact List.mem_cons_self ..,h2,by rw [h1];exact h3⟩
    ·exact .inr ⟨List.mem_cons_of_mem _ h1,h2,h3⟩
   ·rcases h with h|⟨h1,h2,h3⟩
    ·exact .inl (.inl h)
    ·rcases List.mem_cons.1 h1 with h1|h1
     ·exact .inl (.inr ⟨h1,h2,by rw [← h1];exact h3⟩)
     ·exact .inr ⟨h1,h2,h3⟩
  rw [e] at this
  exact this
theorem zPS {c:zOv} {r:DRegime} {a b:List POption} (ha:∀ p ∈ a,0≤p.cost∧p.cost≤2880) (hb:∀ p ∈ b,0≤p.cost∧p.cost≤2880):zPP (zM6 c r a b) (fun q p=>q ∈ a∧p ∈ b∧zBa c r q.pas p.pas=false):=by
 have:=zPR (c:=c) (r:=r) hb (a:=a) (best:=-1) (S:=fun _ _=>False) ha (.inl ⟨rfl,fun _ _ h=>h⟩)
 simpa [zM6] using this
theorem zPT {c:zOv} {r:DRegime} {a b:List POption} (ha:∀ p ∈ a,0≤p.cost∧p.cost≤2880) (hb:∀ p ∈ b,0≤p.cost∧p.cost≤2880):zM6 c r a b=zM6 c r b a:=by
 rcases zPS (c:=c) (r:=r) ha hb with ⟨h1,h2⟩|⟨h1,⟨q,p,⟨h2,h3,h4⟩,h5⟩,h6⟩ <;> rcases zPS (c:=c) (r:=r) hb ha with ⟨k1,k2⟩|⟨k1,⟨q',p',⟨k2,k3,k4⟩,k5⟩,k6⟩
 ·omega
 ·exact (h2 p' q' ⟨k3,k2,by rw [zJR];exact k4⟩).elim
 ·exact (k2 p q ⟨h3,h2,by rw [zJR];exact h4⟩).elim
 ·have a1:=h6 p' q' ⟨k3,k2,by rw [zJR];exact k4⟩
  have a2:=k6 p q ⟨h3,h2,by rw [zJR];exact h4⟩
  omega
theorem zPU {l:List POption} (hl:∀ p ∈ l,0≤p.cost∧p.cost≤2880):(l=[]∧flr l=-1)∨(0≤flr l∧(∃ o ∈ l,o.cost=flr l)∧∀ o ∈ l,flr l≤o.cost):=by
 rcases zF3 l with ⟨h1,h2⟩|⟨h1,h2⟩
 ·exact .inl ⟨h1,by rw [flr,h2,if_pos (by decide)]⟩
 ·have hlt:(zzv l).toNat < l.length:=by omega
  have hm:=zJX hlt
  have e:flr l=(l.getD (zzv l).toNat zFE).cost:=by rw [flr,if_neg (by omega)]
  refine .inr ⟨by rw [e];exact (hl _ hm).1,⟨_,hm,e.symm⟩,fun o ho=>zJ4 ho⟩
theorem zPV {x:DHarbour} {c0 c1:DCall} {rest:List DCall} (hc:zAP (Con.con x) (c0 :: c1 :: rest)=true):zAP (Con.con x) [c0,c1]=true:=by
 rw [zAP,jJ,jJ,decide_eq_true_eq,decide_eq_true_eq] at hc ⊢
 obtain ⟨⟨h1,h2⟩,h3⟩:=hc
 refine ⟨⟨h1,Nat.le_of_ble_eq_true rfl⟩,fun i hi=>?_⟩
 have hi:i < 2:=hi
 have h4:=h3 i (by simp only [List.length_cons];omega)
 rw [clOk,jJ,zAO,decide_eq_true_eq] at h4 ⊢
 have e:∀ j,j < 2→(c0 :: c1 :: rest).getD j dC=[c0,c1].getD j dC:=fun j hj=>by
  match j,hj with
  | 0,_=>rfl
  | 1,_=>rfl
 rw [e i hi] at h4
 refine ⟨h4.1,fun j hj=>?_⟩
 have:=h4.2 j hj
 rwa [e j (by omega)] at this
theorem zPW {x:DHarbour} {c0 c1:DCall} {rest:List DCall} (hc:zAP (Con.con x) (c0 :: c1 :: rest)=true) :
  zM7 (Con.con x) c0 c1=zM7 (Con.con x) c1 c0∧((zM7 (Con.con x) c0 c1 < 0∧(zKf (Con.con x) [c0,c1]).2.2=false) ∨
   (0≤zM7 (Con.con x) c0 c1∧zM3 (Con.con x) c0+zM3 (Con.con x) c1≤zM7 (Con.con x) c0 c1∧((zKf (Con.con x) [c0,c1]).2.2=true→zM7 (Con.con x) c0 c1≤(zKf (Con.con x) [c0,c1]).2.1))):=by
 have hA:∀ p ∈ zFU (Con.con x) c0,0≤p.cost∧p.cost≤2880:=fun p hp=>zGr p hp
 have hB:∀ p ∈ zFU (Con.con x) c1,0≤p.cost∧p.cost≤2880:=fun p hp=>zGr p hp
 have hP:=zPS (c:=(Con.con x:zOw).chart) (r:=(Con.con x:zOw).regime) hA hB
 have hcc:=zPV hc
 have hF:∀ a:DCall,zM3 (Con.con x) a=flr (zFU (Con.con x) a):=fun a=>rfl
 refine ⟨zPT hA hB,?_⟩
 have hbest:(zKf (Con.con x) [c0,c1]).2.2=true→∃ q p,(q ∈ zFU (Con.con x) c0∧p ∈ zFU (Con.con x) c1∧zBa (Con.con x).chart (Con.con x).regime q.pas p.pas=false)∧(zKf (Con.con x) [c0,c1]).2.1=q.cost+p.cost:=fun h=>by
  rcases zPK hcc with ⟨h1,_⟩|⟨_,w,h2,h3,h4,h5,_⟩
  ·rw [h1] at h;cases h
  ·have hl:=zPw h3
   match w,hl,h3,h4,h5 with
   | [k0,k1],_,h3,h4,h5 =>
    have e:picks (zJu (Con.con x) [c0,c1]) [k0,k1]=[(zFU (Con.con x) c0).getD k0 zFE,(zFU (Con.con x) c1).getD k1 zFE]:=rfl
    rw [e] at h4 h5
    have g1:=zPH h3 0 (Nat.le_of_ble_eq_true rfl)
    have g2:=zPH h3 1 (Nat.le_of_ble_eq_true rfl)
    rw [e] at g1 g2
    refine ⟨_,_,⟨g1,g2,?_⟩,?_⟩
    ·have h6:=h4.2.1
     rw [zJT,jJ,zJS,Bool.not_eq_true'] at h6
     have h7:=h6.1
     rw [List.nil_append,List.any_cons,List.any_nil,Bool.or_false] at h7
     exact h7
    ·rw [h5];simp [sumC]
 rcases hP with ⟨h1,h2⟩|⟨h1,⟨q,p,⟨h2,h3,h4⟩,h5⟩,h6⟩
 ·refine .inl ⟨by rw [zM7,h1];decide,?_⟩
  cases hb:(zKf (Con.con x) [c0,c1]).2.2 with
  | false=>rfl
  | true =>
   obtain ⟨q,p,h,_⟩:=hbest hb
   exact (h2 q p h).elim
 ·refine .inr ⟨h1,?_,fun hb=>?_⟩
  ·rw [hF,hF]
   have a1:=zJ4 h2
   have a2:=zJ4 h3
   show _≤zM6 _ _ _ _
   omega
  ·obtain ⟨q',p',h,e⟩:=hbest hb
   rw [e]
   exact h6 q' p' h
theorem zKF {α β γ:Type} {f:α→β} {g:γ→β} {l:List α} {l2:List γ} (h:l.map f=l2.map g) {i:Nat} (hi:i < l.length) (hi2:i < l2.length):f l[i]=g l2[i]:=by
 have h1:(l.map f)[i]?=(l2.map g)[i]?:=by rw [h]
 rw [List.getElem?_map,List.getElem?_map,List.getElem?_eq_getElem hi,List.getElem?_eq_getElem hi2] at h1
 exact Option.some.inj h1
theorem zKG {α β γ:Type} {f:α→β} {g:γ→β} {l:List α} {l2:List γ} (h:l.map f=l2.map g):l.length=l2.length:=by
 have:=congrArg List.length h
 rwa [List.length_map,List.length_map] at this
end Go.Proofs.YtdejfjdbcggilaaGreat
