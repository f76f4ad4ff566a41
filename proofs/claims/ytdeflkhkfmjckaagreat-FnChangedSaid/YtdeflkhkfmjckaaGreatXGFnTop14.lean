/- What functions of the given program compute, as contracts. -/
import Derived.Test.YtdeflkhkfmjckaaGreatXGFnTop12
import Derived.Test.YtdeflkhkfmjckaaGreatXGFnTop13
set_option linter.unusedVariables false
set_option linter.unusedSimpArgs false
set_option maxRecDepth 4000
open Nat renaming reduceAdd → jq, reduceMul → jj, reduceBEq → jy, reduceLeDiff → jv, reduceLT → jk, reduceEqDiff → jx
open Bool renaming or_eq_false_iff → jp, or_eq_true → jQ, and_eq_true → jJ
open Int renaming toNat_natCast → jW, natCast_nonneg → jY
open Go.Proofs.Tryz renaming prog → jV
namespace Go.Proofs.YtdeflkhkfmjckaaGreat
open Go Go.SL
set_option maxHeartbeats 1000000
def srW (x:zFc) (w:List POption→Int):List (List POption)→List POption→List Nat→BSt→BSt
 | [],p,ch,st=>if cut st (w p)=true then st else some (ch,w p)
 | l :: L,p,ch,st=>if cut st (w p)=true then st else (List.range l.length).foldl (fun st k=>if zK7 x p (l.getD k zJX)=true then srW x w L (p ++ [l.getD k zJX]) (ch ++ [k]) st else st) st
theorem zLQ {p:List POption} (h6:p.length≤6) (hc:∀ o ∈ p,0≤o.cost∧o.cost≤2880):zJx p=sumC p:=by
 have key:∀ (p:List POption) (z:Int),(∀ o ∈ p,0≤o.cost∧o.cost≤2880)→0≤z→z+2880 * (p.length:Int)≤1000000→p.foldl (fun t o=>IntKind.i64.wrap (t+o.cost)) z=z+sumC p:=by
  intro p
  induction p with
  | nil=>intro z _ _ _;simp [sumC]
  | cons o p ih =>
   intro z hc h0 h1
   obtain ⟨c0,c1⟩:=hc o (List.mem_cons_self ..)
   rw [List.length_cons] at h1
   rw [List.foldl_cons,zjz (by omega),ih _ (fun y hy=>hc y (List.mem_cons_of_mem _ hy)) (by omega) (by push_cast at h1;omega)]
   simp only [sumC,List.map_cons,List.sum_cons]
   omega
 rw [zJx,key p 0 hc (Int.le_refl _) (by omega)]
 omega
theorem zLR {x:zFc}:∀ {L:List (List POption)} {p:List POption} {ch:List Nat} {st:BSt},p.length+L.length≤6→(∀ o ∈ p,0≤o.cost∧o.cost≤2880)→(∀ l ∈ L,∀ o ∈ l,0≤o.cost∧o.cost≤2880)→srW x zJx L p ch st=srI x L p ch st
 | [],p,ch,st,h6,hp,_=>by rw [srW,srI,zLQ (by simpa using h6) hp]
 | l :: L,p,ch,st,h6,hp,hL=>by
  rw [List.length_cons] at h6
  rw [srW,srI,zLQ (by omega) hp]
  split
  ·rfl
  ·refine zLn fun k hk st=>?_
   have hk:=List.mem_range.1 hk
   split
   ·refine zLR (by rw [List.length_append,List.length_singleton];omega) (fun o ho=>?_) fun l hl=>hL l (List.mem_cons_of_mem _ hl)
    rcases List.mem_append.1 ho with ho|ho
    ·exact hp o ho
    ·rw [List.mem_singleton.1 ho];exact hL l (List.mem_cons_self ..) _ (zLk hk)
   ·rfl
def BS (st:BSt) (be:Sl Int) (m0 m1:Int) (fo:Bool):Prop:=match st with
 | none=>fo=false∧be.l=[]∧m0=0∧m1=0
 | some (w,c)=>fo=true∧be.l=zs w∧m0=c∧m1=0
def zLS (a0 a1 b0 b1:Int):Bool:=decide (a0 < b0) || (decide (a0=b0) && decide (a1 < b1))
theorem zLT {st:BSt} {be:Sl Int} {m0 m1 c:Int} {fo:Bool} (h:BS st be m0 m1 fo):(fo && !zLS c 0 m0 m1)=cut st c:=by
 cases st with
 | none=>rw [show fo=false from h.1];rfl
 | some s =>
  obtain ⟨w',c'⟩:=s
  obtain ⟨rfl,-,rfl,rfl⟩:=h
  rw [cut,zLS,Bool.eq_iff_iff]
  simp only [Bool.true_and,Bool.not_eq_true',jp,Bool.and_eq_false_iff,decide_eq_false_iff_not,decide_eq_true_eq]
  omega
def RowF {α:Type} [Enc α] (e:TypeId) (hb h:Hp) (b:Nat) (s:Sl α):Prop:=RowAt e h s∧∀ g,s.a=some ⟨g,0,none⟩→hb g=none∧g ≠ b
def Apart {α β:Type} (s:Sl α) (t:Sl β):Prop:=∀ g,s.a=some ⟨g,0,none⟩→t.a ≠ some ⟨g,0,none⟩
theorem Apart.symm {α β:Type} {s:Sl α} {t:Sl β} (H:Apart s t):Apart t s:=fun g h1 h2=>H g h2 h1
theorem zLU {α:Type} [Enc α] {e:TypeId} {h h2:Hp} {s:Sl α} (H:RowAt e h s) (hle:h.le h2):RowAt e h2 s:=H.keep fun g hg=>by
 cases hh:h g with
 | none=>exact (zAZ H hg hh).elim
 | some o=>exact hle g o hh
theorem RowF.grow {α:Type} [Enc α] {e:TypeId} {hb h h2:Hp} {b:Nat} {s:Sl α} (H:RowF e hb h b s) (hle:h.le h2):RowF e hb h2 b s:=⟨zLU H.1 hle,H.2⟩
theorem RowF.ins {α:Type} [Enc α] {e:TypeId} {hb h:Hp} {b:Nat} {s:Sl α} {o:Obj} (H:RowF e hb h b s):RowF e hb (h.ins b o) b s:=⟨H.1.keep fun g hg=>Hp.ins_ne (H.2 g hg).2,H.2⟩
theorem RowF.cut {α:Type} [Enc α] {e:TypeId} {hb h:Hp} {b:Nat} {s:Sl α} {k:Nat} (H:RowF e hb h b s) (hk:k≤s.l.length):RowF e hb h b (s.to k):=⟨zAX H.1 hk,H.2⟩
theorem zLV {α:Type} [Enc α] {e:TypeId} {hb h h2:Hp} {b:Nat} {s:Sl α} {l:List α} {ad:Option Addr} {cap:Nat} (hle:hb.le h) (hbn:h b ≠ none) (R:RowF e hb h b s) (P:Pub (znC h s) e (Enc.size α) l.length (l.flatMap Enc.enc) ad cap h2) :
  hb.le h2∧h2 b=h b∧RowF e hb h2 b (Sl.mk ad cap l)∧∀ {β:Type} [Enc β] {e':TypeId} {t:Sl β},RowF e' hb h b t→Apart s t→RowF e' hb h2 b t∧Apart (Sl.mk ad cap l) t:=by
 obtain ⟨R1,F1⟩:=R
 obtain ⟨p1,p2,p3⟩:=zAY R1 P
 have fr:∀ g,ad=some ⟨g,0,none⟩→hb g=none∧g ≠ b:=fun g hg=>by
  rcases p2 g hg with x|x
  ·refine ⟨?_,fun e=>hbn (by rw [← e];exact x)⟩
   cases hh:hb g with
   | none=>rfl
   | some o=>rw [hle g o hh] at x;cases x
  ·exact F1 g x
 refine ⟨fun k o hk=>?_,p3 b (fun g hg e=>(fr g hg).2 e.symm) (fun g hg e=>(F1 g hg).2 e.symm),⟨p1,fr⟩,fun {β} _ {e'} {t} Rt A=>?_⟩
 ·rw [p3 k (fun g hg e=>by subst e;rw [(fr _ hg).1] at hk;cases hk) (fun g hg e=>by subst e;rw [(F1 _ hg).1] at hk;cases hk)]
  exact hle k o hk
 ·have no:∀ g,ad=some ⟨g,0,none⟩→t.a ≠ some ⟨g,0,none⟩:=fun g hg ht=>by
   rcases p2 g hg with x|x
   ·exact zAZ Rt.1 ht x
   ·exact A g x ht
  refine ⟨⟨Rt.1.keep fun g hg=>p3 g (fun g' hg' e=>?_) (fun g' hg' e=>?_),Rt.2⟩,no⟩
  ·subst e;exact no _ hg' hg
  ·subst e;exact A _ hg' hg
def plC (x:DHarbour) (L:Sl (Sl DOption)) (wf:Value) (p:Sl DOption) (ch be:Sl Int) (m0 m1:Int) (fo:Bool):List Value:=[.int .i64 x.forecast.tide.mean,x.forecast.tide.parts.val,x.forecast.surges.val,x.chart.points.val,x.chart.segments.val,x.fleet.val,.int .i64 x.regime.gap,.bool x.regime.noMeet,.int .i64 x.crew.tugs,.int .i64 x.crew.pilots,.int .i64 x.crew.rest,x.crew.moves.val,L.val,wf,p.val,ch.val,be.val,.int .i64 m0,.int .i64 m1,.bool fo]
structure PV (hb h:Hp) (b:Nat) (x:DHarbour) (L:Sl (Sl DOption)) (wf:Value) (p:Sl DOption) (ch be:Sl Int) (m0 m1:Int) (fo:Bool):Prop where
 le:hb.le h
 ox:Enc.ok hb x
 oL:L.Ok hb
 nb:hb b=none
 bx:h b=some (.cells (plC x L wf p ch be m0 m1 fo).toArray 132 (0,0))
 rp:RowF 53 hb h b p
 op:∀ y ∈ p.l,Enc.ok hb y
 rc:RowF 3 hb h b ch
 rb:RowF 3 hb h b be
 d1:Apart p ch
 d2:Apart p be
 d3:Apart ch be
section
variable {hb h h2:Hp} {b:Nat} {x:DHarbour} {L:Sl (Sl DOption)} {wf:Value} {p p':Sl DOption} {ch be ch' be':Sl Int} {m0 m1 m0' m1':Int} {fo fo':Bool}
theorem zLW (H:h b=some (.cells (plC x L wf p ch be m0 m1 fo).toArray 132 (0,0))):h.lds (some ⟨b,0,none⟩) 12=some [.int .i64 x.forecast.tide.mean,x.forecast.tide.parts.val,x.forecast.surges.val,x.chart.points.val,x.chart.segments.val,x.fleet.val,.int .i64 x.regime.gap,.bool x.regime.noMeet,.int .i64 x.crew.tugs,.int .i64 x.crew.pilots,.int .i64 x.crew.rest,x.crew.moves.val]∧h.lds (some ⟨b,12,none⟩) 1=some [L.val]∧h.lds (some ⟨b,13,none⟩) 1=some [wf]∧h.lds (some ⟨b,14,none⟩) 1=some [p.val]∧h.lds (some ⟨b,15,none⟩) 1=some [ch.val]∧h.lds (some ⟨b,16,none⟩) 1=some [be.val]∧h.lds (some ⟨b,17,none⟩) 2=some [.int .i64 m0,.int .i64 m1]∧h.lds (some ⟨b,19,none⟩) 1=some [.bool fo]:=by
 unfold plC at H
 refine ⟨?_,?_,?_,?_,?_,?_,?_,?_⟩ <;> exact zmG H rfl (by simp)
theorem PV.nbx (H:PV hb h b x L wf p ch be m0 m1 fo):h b ≠ none:=by rw [H.bx];exact fun e=>by cases e
theorem PV.pok (H:PV hb h b x L wf p ch be m0 m1 fo):p.Ok h:=H.rp.1.ok (by decide) fun y hy=>Enc.mono H.le (H.op y hy)
theorem PV.cok {pn:List Nat} (H:PV hb h b x L wf p ch be m0 m1 fo) (hc:ch.l=zs pn) (hp:∀ y ∈ pn,y < 100):ch.Ok h:=H.rc.1.ok (by decide) fun y hy=>by
 rw [hc] at hy
 obtain ⟨k,hk,rfl⟩:=List.mem_map.1 hy
 have:=hp k hk
 show I64 _;unfold I64;omega
theorem PV.grow (H:PV hb h b x L wf p ch be m0 m1 fo) (hle:h.le h2):PV hb h2 b x L wf p ch be m0 m1 fo :=
 ⟨Hp.le_trans H.le hle,H.ox,H.oL,H.nb,hle _ _ H.bx,H.rp.grow hle,H.op,H.rc.grow hle,H.rb.grow hle,H.d1,H.d2,H.d3⟩
theorem PV.mk2 (H:PV hb h b x L wf p ch be m0 m1 fo) (hle:hb.le h2) (rp:RowF 53 hb h2 b p') (op:∀ y ∈ p'.l,Enc.ok hb y) (rc:RowF 3 hb h2 b ch') (rb:RowF 3 hb h2 b be') (d1:Apart p' ch') (d2:Apart p' be') (d3:Apart ch' be') :
  PV hb (h2.ins b (.cells (plC x L wf p' ch' be' m0' m1' fo').toArray 132 (0,0))) b x L wf p' ch' be' m0' m1' fo':=by
 refine ⟨fun k o hk=>?_,H.ox,H.oL,H.nb,Hp.ins_same,rp.ins,op,rc.ins,rb.ins,d1,d2,d3⟩
 rw [Hp.ins_ne (fun e=>by subst e;rw [H.nb] at hk;cases hk)]
 exact hle k o hk
end
theorem zLX {x:Cx} {st:St} {KH:Hp→Prop} {t:TypeId} {b off:Nat} {u:Value} {xs xs':List Value} {e:TypeId} (ht:hasT x.P t=true) (hs:szT x.P t=1) (hu:SV.cells (.c (.v u))=[.v u]) (h1:u.oneCell'=true) (hb:st.h b=some (.cells xs.toArray e (0,0))) (hown:x.h0 b=none∨x.W0.own b) (hle:off+1≤xs.length) (hx:spl off [u] xs=xs')
  (hk:KH (st.h.ins b (.cells xs'.toArray e (0,0)))):zlk x st t (.c (.v (.pointer (some ⟨b,off,none⟩)))) (.c (.v u)) KH:=by
 refine zlC ht hs hu h1 hb hown (by simpa using hle) ?_
 rw [List.toList_toArray,hx]
 exact hk
theorem zLY {x:Cx} {st:St} {KH:Hp→Prop} {t:TypeId} {b off:Nat} {u w:Value} {xs xs':List Value} {e:TypeId} (ht:hasT x.P t=true) (hs:szT x.P t=2) (h1:u.oneCell'=true) (h2:w.oneCell'=true) (hb:st.h b=some (.cells xs.toArray e (0,0))) (hown:x.h0 b=none∨x.W0.own b) (hle:off+2≤xs.length) (hx:spl off [u,w] xs=xs')
  (hk:KH (st.h.ins b (.cells xs'.toArray e (0,0)))):zlk x st t (.c (.v (.pointer (some ⟨b,off,none⟩)))) (.g [.v u,.v w]) KH:=by
 unfold zlk
 refine ⟨ht,rfl,?_,?_,b,off,xs.toArray,e,rfl,hb,hown,by rw [hs];simpa using hle,?_⟩
 ·show (([SC.v u,SC.v w]:List SC).all fun c=>c.val.oneCell')=true
  simp only [List.all_cons,List.all_nil,Bool.and_true,SC.val,h1,h2]
 ·rw [hs];rfl
 ·show KH (st.h.ins b (.cells (zbG off [u,w] xs.toArray.toList).toArray e (0,0)))
  rw [List.toList_toArray,show zbG off [u,w] xs=xs' from hx]
  exact hk
theorem zLZ (a0 a1 b0 b1:Int) (h:Hp):Ct jV 106 [.agg #[.int .i64 a0,.int .i64 a1],.agg #[.int .i64 b0,.int .i64 b1]] h fun v h'=>v=.bool (zLS a0 a1 b0 b1)∧h'=h:=by
 have n1:Int.toNat (1:Int)=1:=rfl
 have z2:(0:Int) < ((2:Nat):Int):=by decide
 have o2:(1:Int) < ((2:Nat):Int):=by decide
 have o1:(0:Int)≤1:=by decide
 refine zdn (fun A W=>by simp) Tryz.func106 rfl rfl (by simp) fun W0=>?_
 repeat' first|refine Wa ?_|(simp only [go_sem,jq,jj,jy,jv,jk,jx,z2,o2,o1,Int.toNat_zero,n1,Nat.zero_mul,Nat.one_mul,Nat.zero_add,Nat.mul_one,Int.le_refl,implies_true,true_and,and_true,and_self];try rfl)|refine Wb ?_|fail
def picks:List (List POption)→List Nat→List POption
 | l :: L,k :: ks=>l.getD k zJX :: picks L ks
 | _,_=>[]
def inR:List (List POption)→List Nat→Prop
 | [],[]=>True
 | l :: L,k :: ks=>k < l.length∧inR L ks
 | _,_=>False
def zL0 (x:zFc):List POption→List POption→Prop
 | _,[]=>True
 | p,o :: os=>zK7 x p o=true∧zL0 x (p ++ [o]) os
theorem zL1 {x:zFc}:∀ {L:List (List POption)} {p:List POption} {ch:List Nat} {y:List Nat × Int},y ∈ zLi x L p ch ↔ ∃ ks,inR L ks∧zL0 x p (picks L ks)∧y=(ch ++ ks,sumC (p ++ picks L ks))
 | [],p,ch,y=>by
  rw [zLi,List.mem_singleton]
  constructor
  ·rintro rfl
   exact ⟨[],trivial,trivial,by rw [picks.eq_def];simp⟩
  ·rintro ⟨ks,h1,h2,rfl⟩
   cases ks with
   | nil=>rw [picks.eq_def];simp
   | cons k ks=>exact h1.elim
 | l :: L,p,ch,y=>by
  rw [zLi,List.mem_flatMap]
  constructor
  ·rintro ⟨k,hk,hy⟩
   split at hy
   ·rename_i hf
    obtain ⟨ks,h1,h2,rfl⟩:=zL1.1 hy
    exact ⟨k :: ks,⟨List.mem_range.1 hk,h1⟩,⟨hf,h2⟩,by rw [picks,List.append_assoc,List.append_assoc];rfl⟩
   ·cases hy
  ·rintro ⟨ks,h1,h2,rfl⟩
   cases ks with
   | nil=>exact h1.elim
   | cons k ks =>
    obtain ⟨h1,h3⟩:=h1
    rw [picks] at h2
    refine ⟨k,List.mem_range.2 h1,?_⟩
    rw [if_pos h2.1]
    exact zL1.2 ⟨ks,h3,h2.2,by rw [picks,List.append_assoc,List.append_assoc];rfl⟩
theorem zL2:∀ {l:List (List Nat × Int)} {st:BSt} {y:List Nat × Int},l.foldl upd st=some y→(y ∈ l∨st=some y)∧(∀ z ∈ l,y.2≤z.2)∧∀ z,st=some z→y.2≤z.2
 | [],st,y,h=>⟨.inr h,fun z hz=>(by cases hz),fun z hz=>by rw [show st=some y from h] at hz;rw [Option.some.inj hz];exact Int.le_refl _⟩
 | a :: l,st,y,h=>by
  rw [List.foldl_cons] at h
  obtain ⟨h1,h2,h3⟩:=zL2 h
  cases st with
  | none =>
   have h4:=h3 a rfl
   refine ⟨.inl ?_,fun z hz=>?_,fun z hz=>by cases hz⟩
   ·rcases h1 with h1|h1
    ·exact List.mem_cons_of_mem _ h1
    ·rw [← Option.some.inj h1];exact List.mem_cons_self ..
   ·rcases List.mem_cons.1 hz with rfl|hz
    ·exact h4
    ·exact h2 z hz
  | some s =>
   obtain ⟨b,m⟩:=s
   by_cases hm:a.2 < m
   ·rw [show upd (some (b,m)) a=some a by rw [upd,if_pos hm]] at h1 h3
    have h4:=h3 a rfl
    refine ⟨.inl ?_,fun z hz=>?_,fun z hz=>?_⟩
    ·rcases h1 with h1|h1
     ·exact List.mem_cons_of_mem _ h1
     ·rw [← Option.some.inj h1];exact List.mem_cons_self ..
    ·rcases List.mem_cons.1 hz with rfl|hz
     ·exact h4
     ·exact h2 z hz
    ·rw [← Option.some.inj hz];show y.2≤m;omega
   ·rw [show upd (some (b,m)) a=some (b,m) by rw [upd,if_neg hm]] at h1 h3
    have h4:y.2≤m:=h3 (b,m) rfl
    refine ⟨?_,fun z hz=>?_,fun z hz=>?_⟩
    ·rcases h1 with h1|h1
     ·exact .inl (List.mem_cons_of_mem _ h1)
     ·exact .inr h1
    ·rcases List.mem_cons.1 hz with rfl|hz
     ·omega
     ·exact h2 z hz
    ·rw [← Option.some.inj hz];exact h4
theorem zL3:∀ {l:List (List Nat × Int)} {st:BSt},l.foldl upd st=none→l=[]∧st=none
 | [],st,h=>⟨rfl,h⟩
 | a :: l,st,h=>by
  rw [List.foldl_cons] at h
  have h1:=(zL3 h).2
  cases st with
  | none=>cases h1
  | some s =>
   obtain ⟨b,m⟩:=s
   rw [upd] at h1
   split at h1 <;> cases h1
theorem zL4:∀ {L:List (List POption)} {ks:List Nat},inR L ks→ks.length=L.length
 | [],[],_=>rfl
 | l :: L,k :: ks,h=>by rw [List.length_cons,List.length_cons,zL4 h.2]
 | [],k :: ks,h=>h.elim
 | l :: L,[],h=>h.elim
theorem zL5:∀ {L:List (List POption)} {ks:List Nat},inR L ks→(picks L ks).length=L.length
 | [],[],_=>rfl
 | l :: L,k :: ks,h=>by rw [picks,List.length_cons,List.length_cons,zL5 h.2]
 | [],k :: ks,h=>h.elim
 | l :: L,[],h=>h.elim
theorem zL6:∀ {L:List (List POption)} {ks:List Nat},inR L ks→∀ i,i < L.length→ks.getD i 0 < (L.getD i []).length∧(picks L ks).getD i zJX=(L.getD i []).getD (ks.getD i 0) zJX
 | [],[],_,i,hi=>absurd hi (Nat.not_lt_zero i)
 | l :: L,k :: ks,h,0,hi=>⟨h.1,rfl⟩
 | l :: L,k :: ks,h,i+1,hi=>by
  have:=zL6 h.2 i (by simpa using hi)
  simpa [picks] using this
 | [],k :: ks,h,i,_=>h.elim
 | l :: L,[],h,i,_=>h.elim
theorem zL7:∀ {L:List (List POption)} {ks:List Nat},ks.length=L.length→(∀ i,i < L.length→ks.getD i 0 < (L.getD i []).length)→inR L ks
 | [],[],_,_=>trivial
 | l :: L,k :: ks,hl,h=>⟨h 0 (by simp),zL7 (by simpa using hl) fun i hi=>by have:=h (i+1) (by simpa using hi);simpa using this⟩
 | [],k :: ks,hl,_=>by cases hl
 | l :: L,[],hl,_=>by cases hl
theorem zL8 {x:zFc}:∀ {l p:List POption},zL0 x p l ↔ ∀ i,i < l.length→zK7 x (p ++ l.take i) (l.getD i zJX)=true
 | [],p=>⟨fun _ i hi=>absurd hi (Nat.not_lt_zero i),fun _=>trivial⟩
 | o :: l,p=>by
  rw [zL0,zL8 (l:=l)]
  constructor
  ·rintro ⟨h1,h2⟩ i hi
   cases i with
   | zero=>simpa using h1
   | succ i =>
    have:=h2 i (by simpa using hi)
    simpa using this
  ·intro h
   refine ⟨by simpa using h 0 (by simp),fun i hi=>?_⟩
   have:=h (i+1) (by simpa using hi)
   simpa using this
theorem zL9 {L:List (List POption)} {ch:List Int}:∀ {k:Nat},(∀ i,i < k→0≤ch.getD i 0∧ch.getD i 0 < (L.getD i []).length)→plGo L ch k=some ((List.range k).map fun i=>(L.getD i []).getD (ch.getD i 0).toNat zJX)
 | 0,_=>rfl
 | k+1,h=>by
  rw [zKN (zL9 fun i hi=>h i (by omega)) (h k (Nat.lt_succ_self k)),List.range_succ,List.map_append]
  rfl
theorem zMa {L:List (List POption)} {ch:List Int}:∀ {k:Nat} {p:List POption},plGo L ch k=some p→∀ i,i < k→0≤ch.getD i 0∧ch.getD i 0 < (L.getD i []).length
 | 0,p,_,i,hi=>absurd hi (Nat.not_lt_zero i)
 | k+1,p,h,i,hi=>by
  rw [plGo] at h
  obtain ⟨q,h1,h2⟩:=Option.bind_eq_some_iff.1 h
  rcases Nat.lt_or_ge i k with hk|hk
  ·exact zMa h1 i hk
  ·obtain rfl:i=k:=by omega
   rw [zKJ] at h2
   split at h2
   ·assumption
   ·cases h2
theorem zMb {w:List Nat} {i:Nat}:(zs w).getD i 0=((w.getD i 0:Nat):Int):=by
 rw [zs,List.getD_eq_getElem?_getD,List.getD_eq_getElem?_getD,List.getElem?_map]
 cases w[i]? <;> rfl
theorem zMc {x:zFc} {calls:List DCall} {ks:List Nat} (hc:zJJ x calls=true) (h:inR (zKs x calls) ks):zKK x calls (zs ks)=(picks (zKs x calls) ks,true):=by
 have hl:(zKs x calls).length=calls.length:=List.length_map ..
 have h1:=zL4 h
 have h2:(zs ks).length=ks.length:=List.length_map ..
 rw [zKK,if_pos (by rw [hc,Bool.true_and,decide_eq_true_eq];omega),zL9 fun i hi=>?_]
 ·rw [oLB]
  congr 1
  refine List.ext_getElem (by rw [List.length_map,List.length_range,zL5 h,hl]) fun i h3 h4=>?_
  have h5:=zL6 h i (by rw [← zL5 h];exact h4)
  rw [List.getElem_map,List.getElem_range,zMb,jW,← h5.2,List.getD_eq_getElem?_getD,List.getElem?_eq_getElem h4,Option.getD_some]
 ·have h5:=zL6 h i (by omega)
  rw [zMb];omega
theorem zMd {x:zFc} {calls:List DCall} {ch:List Int} (h:(zKK x calls ch).2=true):zJJ x calls=true∧∃ ks,inR (zKs x calls) ks∧ch=zs ks:=by
 have hl:(zKs x calls).length=calls.length:=List.length_map ..
 rw [zKK] at h
 split at h
 ·rename_i hc
  rw [jJ,decide_eq_true_eq] at hc
  refine ⟨hc.1,ch.map Int.toNat,?_⟩
  cases hp:plGo (zKs x calls) ch calls.length with
  | none=>rw [hp] at h;cases h
  | some p =>
   have h1:=zMa hp
   have h2:∀ i,(ch.map Int.toNat).getD i 0=(ch.getD i 0).toNat:=fun i=>by
    rw [List.getD_eq_getElem?_getD,List.getD_eq_getElem?_getD,List.getElem?_map]
    cases ch[i]? <;> rfl
   refine ⟨zL7 (by rw [List.length_map];omega) fun i hi=>?_,?_⟩
   ·have:=h1 i (by omega)
    rw [h2];omega
   ·rw [zs,List.map_map]
    refine (List.ext_getElem (List.length_map ..) fun i h3 h4=>?_).symm
    have:=h1 i (by omega)
    rw [List.getD_eq_getElem?_getD,List.getElem?_eq_getElem h4,Option.getD_some] at this
    rw [List.getElem_map]
    show ((ch[i].toNat:Nat):Int)=ch[i]
    omega
 ·cases h
theorem zMe {x:zFc} {calls:List DCall} {i:Nat} (hi:i < calls.length):(zKs x calls).getD i []=zy1 x (calls.getD i dC):=by
 rw [zKs,List.getD_eq_getElem?_getD,List.getElem?_map,List.getD_eq_getElem?_getD,List.getElem?_eq_getElem hi];rfl
theorem zMf {x:zFc} {calls:List DCall} {ks:List Nat} (h:inR (zKs x calls) ks) (i:Nat) (hi:i < calls.length):(picks (zKs x calls) ks).getD i zJX ∈ zy1 x (calls.getD i dC):=by
 have hl:(zKs x calls).length=calls.length:=List.length_map ..
 obtain ⟨h1,h2⟩:=zL6 h i (by omega)
 rw [h2]
 rw [zMe hi] at h1 ⊢
 exact zLk h1
theorem zMg {x:DHarbour} {calls:List DCall} {ks:List Nat} (hc:zJJ (Con.con x) calls=true) (h:inR (zKs (Con.con x) calls) ks):zK8 (Con.con x) calls (picks (zKs (Con.con x) calls) ks)=true ↔ zL0 (Con.con x) [] (picks (zKs (Con.con x) calls) ks):=by
 have hl:(zKs (Con.con x) calls).length=calls.length:=List.length_map ..
 have hp:=zL5 h
 rw [zK8,hc,Bool.true_and,jJ,decide_eq_true_eq,decide_eq_true_eq,zL8]
 constructor
 ·rintro ⟨_,h2⟩ i hi
  have:=h2 i (by omega)
  rw [ipAt,jJ] at this
  rw [List.nil_append];exact this.2
 ·intro h2
  refine ⟨by omega,fun i hi=>?_⟩
  have:=h2 i (by omega)
  rw [List.nil_append] at this
  rw [ipAt,jJ]
  exact ⟨zB8 (zMf h i hi),this⟩
theorem zMh {x:DHarbour} {calls:List DCall}:∀ l ∈ zKs (Con.con x) calls,∀ o ∈ l,0≤o.cost∧o.cost≤2880:=fun l hl o ho=>by
 rw [zKs] at hl
 obtain ⟨a,_,rfl⟩:=List.mem_map.1 hl
 exact zzu o ho
theorem zMi {x:DHarbour} {calls:List DCall} (hc:zJJ (Con.con x) calls=true) :
  ((zLC (Con.con x) calls).2.2=false∧(zLC (Con.con x) calls).1=[]∧∀ ks,inR (zKs (Con.con x) calls) ks→¬ zL0 (Con.con x) [] (picks (zKs (Con.con x) calls) ks)) ∨
  ((zLC (Con.con x) calls).2.2=true∧∃ w,(zLC (Con.con x) calls).1=zs w∧inR (zKs (Con.con x) calls) w∧zL0 (Con.con x) [] (picks (zKs (Con.con x) calls) w)∧(zLC (Con.con x) calls).2.1=sumC (picks (zKs (Con.con x) calls) w) ∧
   ∀ ks,inR (zKs (Con.con x) calls) ks→zL0 (Con.con x) [] (picks (zKs (Con.con x) calls) ks)→sumC (picks (zKs (Con.con x) calls) w)≤sumC (picks (zKs (Con.con x) calls) ks)):=by
 rw [zLC,if_pos hc,zLp fun l hl o ho=>(zMh l hl o ho).1]
 cases hr:(zLi (Con.con x) (zKs (Con.con x) calls) [] []).foldl upd none with
 | none =>
  refine .inl ⟨rfl,rfl,fun ks h1 h2=>?_⟩
  have h3:=(zL3 hr).1
  have h4:(([]:List Nat) ++ ks,sumC ([] ++ picks (zKs (Con.con x) calls) ks)) ∈ zLi (Con.con x) (zKs (Con.con x) calls) [] []:=zL1.2 ⟨ks,h1,h2,rfl⟩
  rw [h3] at h4;cases h4
 | some y =>
  obtain ⟨h1,h2,_⟩:=zL2 hr
  rcases h1 with h1|h1
  case inr=>cases h1
  obtain ⟨w,h3,h4,rfl⟩:=zL1.1 h1
  rw [List.nil_append,List.nil_append] at *
  refine .inr ⟨rfl,w,rfl,h3,h4,rfl,fun ks h5 h6=>?_⟩
  have:=h2 _ (zL1.2 ⟨ks,h5,h6,rfl⟩)
  exact this
theorem zMj {x:zFc} {calls:List DCall} (h:zJJ x calls=true):calls.length≤6:=by
 rw [zJJ,jJ,jJ,decide_eq_true_eq] at h
 exact h.1.2
theorem zMk {x:DHarbour} {calls:List DCall} {ks:List Nat} (hc:zJJ (Con.con x) calls=true) (h:inR (zKs (Con.con x) calls) ks):zJx (picks (zKs (Con.con x) calls) ks)=sumC (picks (zKs (Con.con x) calls) ks):=by
 have hl:(zKs (Con.con x) calls).length=calls.length:=List.length_map ..
 have hp:=zL5 h
 have h6:=zMj hc
 refine zLQ (by omega) fun o ho=>?_
 obtain ⟨i,hi,rfl⟩:=List.getElem_of_mem ho
 have:=zMf h i (by omega)
 have e:(picks (zKs (Con.con x) calls) ks).getD i zJX=(picks (zKs (Con.con x) calls) ks)[i]:=by rw [List.getD_eq_getElem?_getD,List.getElem?_eq_getElem hi];rfl
 rw [e] at this
 exact zzu _ this
theorem zMl {x:DHarbour} {calls:List DCall} (hc:zJJ (Con.con x) calls=true) (ot:List Int) :
  ((zLC (Con.con x) calls).2.2=false→(zLC (Con.con x) calls).1=[]∧¬ ((zKK (Con.con x) calls ot).2=true∧zK8 (Con.con x) calls (zKK (Con.con x) calls ot).1=true)) ∧
  ((zLC (Con.con x) calls).2.2=true→(zKK (Con.con x) calls (zLC (Con.con x) calls).1).2=true∧zK8 (Con.con x) calls (zKK (Con.con x) calls (zLC (Con.con x) calls).1).1=true ∧
   zJx (zKK (Con.con x) calls (zLC (Con.con x) calls).1).1=(zLC (Con.con x) calls).2.1 ∧
   ((zKK (Con.con x) calls ot).2=true→zK8 (Con.con x) calls (zKK (Con.con x) calls ot).1=true→(zLC (Con.con x) calls).2.1≤zJx (zKK (Con.con x) calls ot).1) ∧
   (zKK (Con.con x) calls (zLC (Con.con x) calls).1).1.length=calls.length):=by
 have hl:(zKs (Con.con x) calls).length=calls.length:=List.length_map ..
 rcases zMi hc with ⟨h1,h2,h3⟩|⟨h1,w,h2,h3,h4,h5,h6⟩
 ·refine ⟨fun _=>⟨h2,fun ⟨h,hp⟩=>?_⟩,fun h=>by rw [h1] at h;cases h⟩
  obtain ⟨_,ks,hk,rfl⟩:=zMd h
  rw [zMc hc hk] at hp
  exact h3 ks hk ((zMg hc hk).1 hp)
 ·refine ⟨fun h=>(by rw [h1] at h;cases h),fun _=>?_⟩
  rw [h2,h5,zMc hc h3]
  refine ⟨rfl,(zMg hc h3).2 h4,zMk hc h3,fun h hp=>?_,by rw [zL5 h3,hl]⟩
  obtain ⟨_,ks,hk,rfl⟩:=zMd h
  rw [zMc hc hk] at hp ⊢
  show _≤zJx (picks _ _)
  rw [zMk hc hk]
  exact h6 ks hk ((zMg hc hk).1 hp)
theorem zMm {α β γ:Type} {f:α→β} {g:γ→β} {l:List α} {l2:List γ} (h:l.map f=l2.map g) {i:Nat} (hi:i < l.length) (hi2:i < l2.length):f l[i]=g l2[i]:=by
 have h1:(l.map f)[i]?=(l2.map g)[i]?:=by rw [h]
 rw [List.getElem?_map,List.getElem?_map,List.getElem?_eq_getElem hi,List.getElem?_eq_getElem hi2] at h1
 exact Option.some.inj h1
theorem zMn {α β γ:Type} {f:α→β} {g:γ→β} {l:List α} {l2:List γ} (h:l.map f=l2.map g):l.length=l2.length:=by
 have:=congrArg List.length h
 rwa [List.length_map,List.length_map] at this
def LL (L:Sl (Sl DOption)):List (List POption):=L.l.map fun l=>l.l.map (Con.con (α:=DOption))
theorem zMo {L:Sl (Sl DOption)} {i:Nat} (hi:i < L.l.length):(LL L).drop i=L.l[i].l.map (Con.con (α:=DOption)) :: (LL L).drop (i+1):=by
 have h:i < (LL L).length:=by rw [LL,List.length_map];exact hi
 rw [List.drop_eq_getElem_cons h]
 simp [LL]
def zMp (x:zFc) (w:List POption→Int) (L:List (List POption)) (l p:List POption) (ch:List Nat) (st:BSt) (k:Nat):BSt:=if zK7 x p (l.getD k zJX)=true then srW x w L (p ++ [l.getD k zJX]) (ch ++ [k]) st else st
set_option maxRecDepth 30000 in
theorem zMq (hb:Hp) (b:Nat) (x:DHarbour) (L:Sl (Sl DOption)) (wfn:Nat) (cs:List Value) (w:List POption→Int) (hR:zvl x.regime=true) (hL6:L.l.length≤6) (hLn:∀ l ∈ L.l,l.l.length≤90) (hLg:∀ l ∈ L.l,∀ y ∈ l.l,zBC (Con.con x.chart) x.fleet.l y.pas.l∧y.pas.l.length≤1000)
  (hw:∀ (s:Sl DOption) (h:Hp),s.Ok h→hb.le h→s.l.length≤6→Ct jV wfn ([s.val] ++ cs) h fun v h'=>v=.agg #[.int .i64 (w (s.l.map Con.con)),.int .i64 0]∧h'=h) :
  ∀ (f:Nat) (pn:List Nat) (p:Sl DOption) (ch be:Sl Int) (m0 m1:Int) (fo:Bool) (st:BSt) (h:Hp),PV hb h b x L (.func (.func wfn) #[] cs.toArray) p ch be m0 m1 fo→BS st be m0 m1 fo→p.l.length+f=L.l.length→ch.l=zs pn→pn.length=p.l.length→(∀ y ∈ p.l,zBC (Con.con x.chart) x.fleet.l y.pas.l∧y.pas.l.length≤1000)→(∀ y ∈ pn,y < 100) →
   Cw jV 66 [.pointer (some ⟨b,0,none⟩)] h (fun k=>hb k=none∧h k ≠ none) fun v h'=>∃ (p':Sl DOption) (ch' be':Sl Int) (m0' m1':Int) (fo':Bool),PV hb h' b x L (.func (.func wfn) #[] cs.toArray) p' ch' be' m0' m1' fo'∧p'.l=p.l∧ch'.l=ch.l∧BS (srW (Con.con x) w ((LL L).drop p.l.length) (p.l.map Con.con) pn st) be' m0' m1' fo':=by
 intro f
 induction f using Nat.strongRecOn with
 | _ f ih =>
 intro pn p ch be m0 m1 fo st h H hst hlen hch hpn hpg hpb
 obtain ⟨q0,q12,q13,q14,q15,q16,q17,q19⟩:=zLW H.bx
 have hpo:=H.pok
 have hLo:=H.oL.mono H.le
 have hLm:=hLo.max
 refine zlh (fun A W=>by simp) Tryz.func66 rfl rfl (by simp)  (fun k hk=>hk.2) fun W0 hW=>?_
 have own:∀ k,hb k=none→h k=none∨W0.own k:=fun k hk=>by
  cases hh:h k with
  | none=>exact .inl rfl
  | some o=>exact .inr (hW k ⟨hk,by rw [hh];simp⟩)
 refine zc3 ?_
 refine zoc (ι:=Unit) (fun _=>⟨[(0,true,.c (.v (.pointer (some ⟨b,0,none⟩)))),(2,true,.c (.p 0 0))],[(0,.box 81 [.v (.int .i64 (w (p.l.map Con.con))),.v (.int .i64 0)])],h,1⟩) (fun _=>True) ?_ ?_
 ·refine znv rfl ?_
  refine U_t [0,4,1,5,2,6,3,7] rfl ?_
  simp only [go_sem,jq,jj,jy,jv,jk,jx,q0,q12,q13,q14,q15,q16,q17,q19,true_or,true_and,and_true,implies_true]
  refine U_m 8 [9] ⟨?_,?_,trivial⟩
  ·refine U_b 8 0 [] rfl rfl ?_
   simp only [go_sem,jq,jj,jy,jv,jk,jx,q0,q12,q13,q14,q15,q16,q17,q19,true_or,true_and,and_true,implies_true]
   refine zhF (fun _=>hw p h hpo H.le (by omega)) ?_
   simp only [go_sem,jq,jj,jy,jv,jk,jx,q0,q12,q13,q14,q15,q16,q17,q19,true_or,true_and,and_true,implies_true]
   refine U_1 9 0 [] rfl rfl ?_
   simp only [go_sem,jq,jj,jy,jv,jk,jx,q0,q12,q13,q14,q15,q16,q17,q19,true_or,true_and,and_true,implies_true]
   refine U_1 10 0 [] rfl rfl ?_
   simp only [go_sem,jq,jj,jy,jv,jk,jx,q0,q12,q13,q14,q15,q16,q17,q19,true_or,true_and,and_true,implies_true]
   refine U_d ?_
   refine ⟨(),[0],?_⟩
   refine Evs ?_
   exact Gk
  ·refine U_b 9 0 [7,3,6,2,5,1] rfl rfl ?_
   simp only [go_sem,jq,jj,jy,jv,jk,jx,q0,q12,q13,q14,q15,q16,q17,q19,true_or,true_and,and_true,implies_true]
   refine U_1 8 0 [] rfl rfl ?_
   simp only [go_sem,jq,jj,jy,jv,jk,jx,q0,q12,q13,q14,q15,q16,q17,q19,true_or,true_and,and_true,implies_true]
   refine zhF (fun _=>hw p h hpo H.le (by omega)) ?_
   simp only [go_sem,jq,jj,jy,jv,jk,jx,q0,q12,q13,q14,q15,q16,q17,q19,true_or,true_and,and_true,implies_true]
   refine U_1 10 0 [] rfl rfl ?_
   simp only [go_sem,jq,jj,jy,jv,jk,jx,q0,q12,q13,q14,q15,q16,q17,q19,true_or,true_and,and_true,implies_true]
   refine U_d ?_
   refine ⟨(),[0],?_⟩
   refine Evs ?_
   exact Gk
 intro _ _
 refine Wk ?_
 refine znv rfl ?_
 refine U_t [0,1,2,3,4,5,6,7,8,9] rfl ?_
 simp only [go_sem,jq,jj,jy,jv,jk,jx,q0,q12,q13,q14,q15,q16,q17,q19,true_or,true_and,and_true,implies_true]
 refine U_1 10 0 [] rfl rfl ?_
 simp only [go_sem,jq,jj,jy,jv,jk,jx,q0,q12,q13,q14,q15,q16,q17,q19,true_or,true_and,and_true,implies_true]
 refine zhF (fun _=>zLZ _ _ _ _ _) ?_
 simp only [go_sem,jq,jj,jy,jv,jk,jx,q0,q12,q13,q14,q15,q16,q17,q19,true_or,true_and,and_true,implies_true]
 refine U_t [11,12] rfl ?_
 simp only [go_sem,jq,jj,jy,jv,jk,jx,q0,q12,q13,q14,q15,q16,q17,q19,true_or,true_and,and_true,implies_true]
 refine U_d ?_
 have hcut:=zLT (c:=w (p.l.map Con.con)) hst
 refine zc9 rfl (fun hq=>?_) (fun hq=>?_)
 ·rw [hcut] at hq
  refine Wk ?_
  refine ⟨p,ch,be,m0,m1,fo,H,rfl,rfl,?_⟩
  have hs:srW (Con.con x) w ((LL L).drop p.l.length) (p.l.map Con.con) pn st=st:=by
   cases (LL L).drop p.l.length with
   | nil=>rw [srW,if_pos hq]
   | cons l M=>rw [srW,if_pos hq]
  rw [hs]
  exact hst
 rw [hcut] at hq
 repeat' first|refine Wa ?_|(simp only [go_sem,jq,jj,jy,jv,jk,jx,q0,q12,q13,q14,q15,q16,q17,q19,true_or,true_and,and_true,implies_true];try rfl)|refine Wb ?_|fail
 refine zc9 rfl (fun hx=>?_) (fun hx=>?_)
 ·have hx:p.l.length=L.l.length:=by have:=eq_of_beq hx;omega
  have hs:srW (Con.con x) w ((LL L).drop p.l.length) (p.l.map Con.con) pn st=some (pn,w (p.l.map Con.con)):=by
   rw [List.drop_of_length_le (by rw [LL,List.length_map];omega),srW,if_neg (by rw [hq];exact Bool.false_ne_true)]
  rw [hs]
  refine Wk ?_
  refine znv rfl ?_
  refine U_t [0,1,2,3,8,4,5,6] rfl ?_
  simp only [go_sem,jq,jj,jy,jv,jk,jx,q0,q12,q13,q14,q15,q16,q17,q19,true_or,true_and,and_true,implies_true]
  refine U_1 7 0 [8] rfl rfl ?_
  simp only [go_sem,jq,jj,jy,jv,jk,jx,q0,q12,q13,q14,q15,q16,q17,q19,true_or,true_and,and_true,implies_true]
  refine zkj (zx0 ch _ (H.cok hch hpb) (by rw [hch,zAH];omega)) rfl ?_
  rintro v h1 le1 ⟨q,rfl,eq1,Rq,fq⟩
  have H1:=H.grow le1
  obtain ⟨q0,q12,q13,q14,q15,q16,q17,q19⟩:=zLW H1.bx
  have rq:RowF 3 hb h1 b q:=⟨Rq,fun g hg=>⟨zmx H.le (fq g hg),fun e=>H.nbx (by rw [← e];exact fq g hg)⟩⟩
  have dq1:Apart p q:=fun g hg hq=>zAZ H.rp.1 hg (fq g hq)
  have dq2:Apart ch q:=fun g hg hq=>zAZ H.rc.1 hg (fq g hq)
  simp only [go_sem,jq,jj,jy,jv,jk,jx,q0,q12,q13,q14,q15,q16,q17,q19,true_or,true_and,and_true,implies_true]
  refine U_t [9,10] rfl ?_
  simp only [go_sem,jq,jj,jy,jv,jk,jx,q0,q12,q13,q14,q15,q16,q17,q19,true_or,true_and,and_true,implies_true]
  refine U_1 11 1 [8] rfl rfl ?_
  simp only [go_sem,jq,jj,jy,jv,jk,jx,q0,q12,q13,q14,q15,q16,q17,q19,true_or,true_and,and_true,implies_true]
  refine zLX (xs':=plC x L (.func (.func wfn) #[] cs.toArray) p ch q m0 m1 fo) (by simp only [go_sem]) (by simp only [go_sem]) rfl rfl H1.bx (own b H.nb) (by simp [plC]) rfl ?_
  refine Evs ?_
  refine U_t [12,13] rfl ?_
  simp only [go_sem,jq,jj,jy,jv,jk,jx,q0,q12,q13,q14,q15,q16,q17,q19,true_or,true_and,and_true,implies_true]
  refine U_1 14 1 [] rfl rfl ?_
  simp only [go_sem,jq,jj,jy,jv,jk,jx,q0,q12,q13,q14,q15,q16,q17,q19,true_or,true_and,and_true,implies_true]
  refine zLY (xs':=plC x L (.func (.func wfn) #[] cs.toArray) p ch q (w (p.l.map Con.con)) 0 fo) (by simp only [go_sem]) (by simp only [go_sem]) rfl rfl Hp.ins_same (own b H.nb) (by simp [plC]) rfl ?_
  try simp only [go_sem,jq,jj,jy,jv,jk,jx]
  refine U_t [15,16] rfl ?_
  simp only [go_sem,jq,jj,jy,jv,jk,jx,q0,q12,q13,q14,q15,q16,q17,q19,true_or,true_and,and_true,implies_true]
  refine U_1 17 1 [] rfl rfl ?_
  simp only [go_sem,jq,jj,jy,jv,jk,jx,q0,q12,q13,q14,q15,q16,q17,q19,true_or,true_and,and_true,implies_true]
  refine zLX (xs':=plC x L (.func (.func wfn) #[] cs.toArray) p ch q (w (p.l.map Con.con)) 0 true) (by simp only [go_sem]) (by simp only [go_sem]) rfl rfl Hp.ins_same (own b H.nb) (by simp [plC]) rfl ?_
  try simp only [go_sem,jq,jj,jy,jv,jk,jx]
  rw [Hp.ins_ins,Hp.ins_ins]
  refine U_d ?_
  refine Wk ?_
  exact ⟨p,ch,q,_,0,true,PV.mk2 H1 H1.le H1.rp H1.op H1.rc rq H1.d1 dq1 dq2,rfl,rfl,rfl,by rw [eq1,hch],rfl,rfl⟩
 have hx:¬ (p.l.length=L.l.length):=by have:=ne_of_beq_false hx;omega
 have hi:p.l.length < L.l.length:=by omega
 have hii:(p.l.length:Int) < L.l.length:=by omega
 have hlo:=hLo.el hi
 have hlm:=Sl.Ok.max hlo
 have hmem:L.l[p.l.length] ∈ L.l:=List.getElem_mem hi
 refine zc5 ?_
 refine Evs ?_
 repeat' first|refine Wa ?_|(simp only [go_sem,jq,jj,jy,jv,jk,jx,q0,q12,q13,q14,q15,q16,q17,q19,true_or,true_and,and_true,implies_true,zku hLo hi,hLo.some hi,hi,hii,jW,jY,and_self];try rfl)|refine Wb ?_|fail
 refine zoe (ι:=Nat × Hp × Sl DOption × Sl Int × Sl Int × Int × Int × Bool) (fun i=>⟨[(0,true,.c (.v (.pointer (some ⟨b,0,none⟩)))),(3,true,.c (.v (.int .i64 p.l.length))),(61,true,.c (.v L.l[p.l.length].val)),(62,true,.c (.v (.int .i64 L.l[p.l.length].l.length))),(63,true,.c (.v (.int .i64 i.1)))],[],i.2.1,0⟩)
  (fun i=>i.1≤L.l[p.l.length].l.length∧PV hb i.2.1 b x L (.func (.func wfn) #[] cs.toArray) i.2.2.1 i.2.2.2.1 i.2.2.2.2.1 i.2.2.2.2.2.1 i.2.2.2.2.2.2.1 i.2.2.2.2.2.2.2∧i.2.2.1.l=p.l∧i.2.2.2.1.l=ch.l∧BS ((List.range i.1).foldl (zMp (Con.con x) w ((LL L).drop (p.l.length+1)) (L.l[p.l.length].l.map Con.con) (p.l.map Con.con) pn) st) i.2.2.2.2.1 i.2.2.2.2.2.1 i.2.2.2.2.2.2.1 i.2.2.2.2.2.2.2) (fun i=>L.l[p.l.length].l.length - i.1) (0,h,p,ch,be,m0,m1,fo) ⟨Nat.zero_le _,H,rfl,rfl,hst⟩ [] ?_ ?_
 ·refine Evs ?_
  exact Gk
 rintro ⟨k,hk,p1,c1,be1,n0,n1,fo1⟩ ⟨hkl,H1,ep1,ec1,hB1⟩
 simp only at hkl H1 ep1 ec1 hB1
 obtain ⟨q0,q12,q13,q14,q15,q16,q17,q19⟩:=zLW H1.bx
 have hp1l:p1.l.length=p.l.length:=by rw [ep1]
 have hc1l:c1.l.length=p.l.length:=by rw [ec1,hch,zAH,hpn]
 refine Wk ?_
 refine zc9 rfl (fun hd=>?_) (fun hd=>?_)
 ·have hlt:=zjH hd
  have hxk:Enc.ok hk x:=Enc.mono H1.le H1.ox
  have hlk:L.l[p.l.length].Ok hk:=Sl.Ok.el (H1.oL.mono H1.le) hi
  obtain ⟨o,ho⟩:∃ o,L.l[p.l.length].l[k]=o:=⟨_,rfl⟩
  have hok0:Enc.ok hb o:=by rw [← ho];exact Sl.Ok.el (Sl.Ok.el H1.oL hi) hlt
  have hok:Enc.ok hk o:=Enc.mono H1.le hok0
  have hog:=hLg _ hmem o (by rw [← ho];exact List.getElem_mem hlt)
  have hgd:(L.l[p.l.length].l.map (Con.con (α:=DOption))).getD k zJX=Con.con o:=by simp [List.getD_eq_getElem?_getD,hlt,ho]
  have hgo:∀ q ∈ p1.l ++ [o],zBC (Con.con x.chart) x.fleet.l q.pas.l:=fun q hq=>by
   rcases List.mem_append.1 hq with hq|hq
   ·exact (hpg q (by rw [← ep1];exact hq)).1
   ·rw [List.mem_singleton.1 hq];exact hog.1
  have hszo:((p1.l ++ [o]).flatMap (·.pas.l)).length≤1048576:=by
   refine Nat.le_trans (zn1 (B:=1000) fun q hq=>?_) (by rw [List.length_append,List.length_singleton];omega)
   rcases List.mem_append.1 hq with hq|hq
   ·exact (hpg q (by rw [← ep1];exact hq)).2
   ·rw [List.mem_singleton.1 hq];exact hog.2
  have hstep:∀ st',zMp (Con.con x) w ((LL L).drop (p.l.length+1)) (L.l[p.l.length].l.map Con.con) (p.l.map Con.con) pn st' k=if zK7 (Con.con x) (p.l.map Con.con) (Con.con o)=true then srW (Con.con x) w ((LL L).drop (p.l.length+1)) (p.l.map Con.con ++ [Con.con o]) (pn ++ [k]) st' else st':=fun st'=>by rw [zMp,hgd]
  have hk90:=hLn _ hmem
  repeat' first|refine Wa ?_|(simp only [go_sem,jq,jj,jy,jv,jk,jx,zkC hlk hlt,hlk.some hlt,hlt,ho,jW];try rfl)|refine Wb ?_|fail
  refine znv rfl ?_
  refine U_t [0,4,8,1,5,2,6,3,7] rfl ?_
  simp only [go_sem,jq,jj,jy,jv,jk,jx,q0,q12,q13,q14,q15,q16,q17,q19,true_or,true_and,and_true,implies_true]
  refine U_1 9 0 [] rfl rfl ?_
  simp only [go_sem,jq,jj,jy,jv,jk,jx,q0,q12,q13,q14,q15,q16,q17,q19,true_or,true_and,and_true,implies_true]
  refine zhF (fun _=>zLM x p1 o _ hxk H1.pok hok hR hgo hszo (by omega)) ?_
  simp only [go_sem,jq,jj,jy,jv,jk,jx,q0,q12,q13,q14,q15,q16,q17,q19,true_or,true_and,and_true,implies_true]
  refine U_t [10] rfl ?_
  simp only [go_sem,jq,jj,jy,jv,jk,jx,q0,q12,q13,q14,q15,q16,q17,q19,true_or,true_and,and_true,implies_true]
  refine U_d ?_
  rw [ep1]
  refine zc9 rfl (fun hq=>?_) (fun hq=>?_)
  ·rw [Bool.not_eq_true'] at hq
   refine Wk ?_
   refine ⟨(k+1,hk,p1,c1,be1,n0,n1,fo1),[],⟨hlt,H1,ep1,ec1,?_⟩,by simp only;omega,?_⟩
   ·simp only
    rw [List.range_succ,List.foldl_append,List.foldl_cons,List.foldl_nil,hstep,if_neg (by rw [hq];exact Bool.false_ne_true)]
    exact hB1
   refine Evs ?_
   exact Gi (zjA hlt (by omega))
  rw [Bool.not_eq_false'] at hq
  refine zc5 ?_
  refine Evs ?_
  refine zc3 ?_
  refine zoc (ι:=Hp × Sl DOption × Sl Int) (fun i=>⟨[(0,true,.c (.v (.pointer (some ⟨b,0,none⟩)))),(3,true,.c (.v (.int .i64 p.l.length))),(61,true,.c (.v L.l[p.l.length].val)),(62,true,.c (.v (.int .i64 L.l[p.l.length].l.length))),(63,true,.c (.v (.int .i64 k)))],[],i.1,0⟩) (fun i=>PV hb i.1 b x L (.func (.func wfn) #[] cs.toArray) i.2.1 i.2.2 be1 n0 n1 fo1∧i.2.1.l=p1.l ++ [o]∧i.2.2.l=c1.l ++ [(k:Int)]) ?_ ?_
  ·refine znv rfl ?_
   refine U_t [0,1,2,6,9,13,3,10,4,11,5,12] rfl ?_
   simp only [go_sem,jq,jj,jy,jv,jk,jx,q0,q12,q13,q14,q15,q16,q17,q19,true_or,true_and,and_true,implies_true]
   refine U_m 7 [14] ⟨?_,?_,trivial⟩
   ·refine U_b 7 0 [12,5,11,4,10,3] rfl rfl ?_
    simp only [go_sem,jq,jj,jy,jv,jk,jx,q0,q12,q13,q14,q15,q16,q17,q19,true_or,true_and,and_true,implies_true]
    refine U_m 8 [14] ⟨?_,?_,trivial⟩
    ·refine U_b 8 3 [12,11,10] rfl rfl ?_
     simp only [go_sem,jq,jj,jy,jv,jk,jx,q0,q12,q13,q14,q15,q16,q17,q19,true_or,true_and,and_true,implies_true]
     refine znE (s:=p1) rfl H1.rp.1 (fun g hg=>own g (H1.rp.2 g hg).1) ?_
     refine Evs ?_
     refine ⟨rfl,by simp only [maxLen];omega,by omega,fun ad cap h2 P=>?_⟩
     have P':Pub (znC hk p1) 53 (Enc.size DOption) (p1.l ++ [o]).length ((p1.l ++ [o]).flatMap Enc.enc) ad cap h2:=by
      rw [List.length_append,List.flatMap_append];exact P
     obtain ⟨le2,kb2,rp2,oth2⟩:=zLV H1.le H1.nbx H1.rp P'
     obtain ⟨rc2,dc2⟩:=oth2 H1.rc H1.d1
     obtain ⟨rb2,db2⟩:=oth2 H1.rb H1.d2
     have nb2:h2 b ≠ none:=by rw [kb2];exact H1.nbx
     have bx2:=H1.bx
     rw [← kb2] at bx2
     obtain ⟨q0,q12,q13,q14,q15,q16,q17,q19⟩:=zLW bx2
     rw [show Value.slice ad (p1.l.length+1) cap=(Sl.mk ad cap (p1.l ++ [o])).val from by simp only [Sl.val,List.length_append,List.length_singleton]]
     try simp only [go_sem,jq,jj,jy,jv,jk,jx,q0,q12,q13,q14,q15,q16,q17,q19,true_or,true_and,and_true,implies_true]
     refine U_1 14 0 [12,11,10] rfl rfl ?_
     simp only [go_sem,jq,jj,jy,jv,jk,jx,q0,q12,q13,q14,q15,q16,q17,q19,true_or,true_and,and_true,implies_true]
     refine U_1 15 3 [] rfl rfl ?_
     simp only [go_sem,jq,jj,jy,jv,jk,jx,q0,q12,q13,q14,q15,q16,q17,q19,true_or,true_and,and_true,implies_true]
     refine znE (s:=c1) rfl rc2.1 (fun g hg=>own g (rc2.2 g hg).1) ?_
     refine Evs ?_
     refine ⟨rfl,by simp only [maxLen];omega,by omega,fun ad2 cap2 h3 P2=>?_⟩
     have P2':Pub (znC h2 c1) 3 (Enc.size Int) (c1.l ++ [(k:Int)]).length ((c1.l ++ [(k:Int)]).flatMap Enc.enc) ad2 cap2 h3:=by
      rw [List.length_append,List.flatMap_append];exact P2
     obtain ⟨le3,kb3,rc3,oth3⟩:=zLV le2 nb2 rc2 P2'
     obtain ⟨rp3,dp3⟩:=oth3 rp2 dc2.symm
     obtain ⟨rb3,db3⟩:=oth3 rb2 H1.d3
     have bx3:=bx2
     rw [← kb3] at bx3
     obtain ⟨q0,q12,q13,q14,q15,q16,q17,q19⟩:=zLW bx3
     rw [show Value.slice ad2 (c1.l.length+1) cap2=(Sl.mk ad2 cap2 (c1.l ++ [(k:Int)])).val from by simp only [Sl.val,List.length_append,List.length_singleton]]
     try simp only [go_sem,jq,jj,jy,jv,jk,jx,q0,q12,q13,q14,q15,q16,q17,q19,true_or,true_and,and_true,implies_true]
     refine U_t [16,17] rfl ?_
     simp only [go_sem,jq,jj,jy,jv,jk,jx,q0,q12,q13,q14,q15,q16,q17,q19,true_or,true_and,and_true,implies_true]
     refine U_1 18 1 [] rfl rfl ?_
     simp only [go_sem,jq,jj,jy,jv,jk,jx,q0,q12,q13,q14,q15,q16,q17,q19,true_or,true_and,and_true,implies_true]
     refine zLX (xs':=plC x L (.func (.func wfn) #[] cs.toArray) (Sl.mk ad cap (p1.l ++ [o])) c1 be1 n0 n1 fo1) (by simp only [go_sem]) (by simp only [go_sem]) rfl rfl bx3 (own b H.nb) (by simp [plC]) rfl ?_
     refine Evs ?_
     refine U_t [19,20] rfl ?_
     simp only [go_sem,jq,jj,jy,jv,jk,jx,q0,q12,q13,q14,q15,q16,q17,q19,true_or,true_and,and_true,implies_true]
     refine U_1 21 1 [] rfl rfl ?_
     simp only [go_sem,jq,jj,jy,jv,jk,jx,q0,q12,q13,q14,q15,q16,q17,q19,true_or,true_and,and_true,implies_true]
     refine zLX (xs':=plC x L (.func (.func wfn) #[] cs.toArray) (Sl.mk ad cap (p1.l ++ [o])) (Sl.mk ad2 cap2 (c1.l ++ [(k:Int)])) be1 n0 n1 fo1) (by simp only [go_sem]) (by simp only [go_sem]) rfl rfl Hp.ins_same (own b H.nb) (by simp [plC]) rfl ?_
     refine Evs ?_
     rw [Hp.ins_ins]
     refine U_d ?_
     refine ⟨(_,Sl.mk ad cap (p1.l ++ [o]),Sl.mk ad2 cap2 (c1.l ++ [(k:Int)])),[],⟨PV.mk2 H1 le3 rp3 (fun y hy=>?_) rc3 rb3 dp3.symm db2 db3,rfl,rfl⟩,?_⟩
     ·rcases List.mem_append.1 hy with hy|hy
      ·exact H1.op y hy
      ·rw [List.mem_singleton.1 hy];exact hok0
     refine Evs ?_
     exact Gk
    ·refine U_b 14 0 [12,5,11,4,10,3] rfl rfl ?_
     simp only [go_sem,jq,jj,jy,jv,jk,jx,q0,q12,q13,q14,q15,q16,q17,q19,true_or,true_and,and_true,implies_true]
     refine U_1 8 3 [12,11,10] rfl rfl ?_
     simp only [go_sem,jq,jj,jy,jv,jk,jx,q0,q12,q13,q14,q15,q16,q17,q19,true_or,true_and,and_true,implies_true]
     refine znE (s:=p1) rfl H1.rp.1 (fun g hg=>own g (H1.rp.2 g hg).1) ?_
     refine Evs ?_
     refine ⟨rfl,by simp only [maxLen];omega,by omega,fun ad cap h2 P=>?_⟩
     have P':Pub (znC hk p1) 53 (Enc.size DOption) (p1.l ++ [o]).length ((p1.l ++ [o]).flatMap Enc.enc) ad cap h2:=by
      rw [List.length_append,List.flatMap_append];exact P
     obtain ⟨le2,kb2,rp2,oth2⟩:=zLV H1.le H1.nbx H1.rp P'
     obtain ⟨rc2,dc2⟩:=oth2 H1.rc H1.d1
     obtain ⟨rb2,db2⟩:=oth2 H1.rb H1.d2
     have nb2:h2 b ≠ none:=by rw [kb2];exact H1.nbx
     have bx2:=H1.bx
     rw [← kb2] at bx2
     obtain ⟨q0,q12,q13,q14,q15,q16,q17,q19⟩:=zLW bx2
     rw [show Value.slice ad (p1.l.length+1) cap=(Sl.mk ad cap (p1.l ++ [o])).val from by simp only [Sl.val,List.length_append,List.length_singleton]]
     try simp only [go_sem,jq,jj,jy,jv,jk,jx,q0,q12,q13,q14,q15,q16,q17,q19,true_or,true_and,and_true,implies_true]
     refine U_1 15 3 [] rfl rfl ?_
     simp only [go_sem,jq,jj,jy,jv,jk,jx,q0,q12,q13,q14,q15,q16,q17,q19,true_or,true_and,and_true,implies_true]
     refine znE (s:=c1) rfl rc2.1 (fun g hg=>own g (rc2.2 g hg).1) ?_
     refine Evs ?_
     refine ⟨rfl,by simp only [maxLen];omega,by omega,fun ad2 cap2 h3 P2=>?_⟩
     have P2':Pub (znC h2 c1) 3 (Enc.size Int) (c1.l ++ [(k:Int)]).length ((c1.l ++ [(k:Int)]).flatMap Enc.enc) ad2 cap2 h3:=by
      rw [List.length_append,List.flatMap_append];exact P2
     obtain ⟨le3,kb3,rc3,oth3⟩:=zLV le2 nb2 rc2 P2'
     obtain ⟨rp3,dp3⟩:=oth3 rp2 dc2.symm
     obtain ⟨rb3,db3⟩:=oth3 rb2 H1.d3
     have bx3:=bx2
     rw [← kb3] at bx3
     obtain ⟨q0,q12,q13,q14,q15,q16,q17,q19⟩:=zLW bx3
     rw [show Value.slice ad2 (c1.l.length+1) cap2=(Sl.mk ad2 cap2 (c1.l ++ [(k:Int)])).val from by simp only [Sl.val,List.length_append,List.length_singleton]]
     try simp only [go_sem,jq,jj,jy,jv,jk,jx,q0,q12,q13,q14,q15,q16,q17,q19,true_or,true_and,and_true,implies_true]
     refine U_t [16,17] rfl ?_
     simp only [go_sem,jq,jj,jy,jv,jk,jx,q0,q12,q13,q14,q15,q16,q17,q19,true_or,true_and,and_true,implies_true]
     refine U_1 18 1 [] rfl rfl ?_
     simp only [go_sem,jq,jj,jy,jv,jk,jx,q0,q12,q13,q14,q15,q16,q17,q19,true_or,true_and,and_true,implies_true]
     refine zLX (xs':=plC x L (.func (.func wfn) #[] cs.toArray) (Sl.mk ad cap (p1.l ++ [o])) c1 be1 n0 n1 fo1) (by simp only [go_sem]) (by simp only [go_sem]) rfl rfl bx3 (own b H.nb) (by simp [plC]) rfl ?_
     refine Evs ?_
     refine U_t [19,20] rfl ?_
     simp only [go_sem,jq,jj,jy,jv,jk,jx,q0,q12,q13,q14,q15,q16,q17,q19,true_or,true_and,and_true,implies_true]
     refine U_1 21 1 [] rfl rfl ?_
     simp only [go_sem,jq,jj,jy,jv,jk,jx,q0,q12,q13,q14,q15,q16,q17,q19,true_or,true_and,and_true,implies_true]
     refine zLX (xs':=plC x L (.func (.func wfn) #[] cs.toArray) (Sl.mk ad cap (p1.l ++ [o])) (Sl.mk ad2 cap2 (c1.l ++ [(k:Int)])) be1 n0 n1 fo1) (by simp only [go_sem]) (by simp only [go_sem]) rfl rfl Hp.ins_same (own b H.nb) (by simp [plC]) rfl ?_
     refine Evs ?_
     rw [Hp.ins_ins]
     refine U_d ?_
     refine ⟨(_,Sl.mk ad cap (p1.l ++ [o]),Sl.mk ad2 cap2 (c1.l ++ [(k:Int)])),[],⟨PV.mk2 H1 le3 rp3 (fun y hy=>?_) rc3 rb3 dp3.symm db2 db3,rfl,rfl⟩,?_⟩
     ·rcases List.mem_append.1 hy with hy|hy
      ·exact H1.op y hy
      ·rw [List.mem_singleton.1 hy];exact hok0
     refine Evs ?_
     exact Gk
   ·refine U_b 14 0 [12,5,11,4,10,3,6] rfl rfl ?_
    simp only [go_sem,jq,jj,jy,jv,jk,jx,q0,q12,q13,q14,q15,q16,q17,q19,true_or,true_and,and_true,implies_true]
    refine U_1 7 0 [12,5,11,4,10,3] rfl rfl ?_
    simp only [go_sem,jq,jj,jy,jv,jk,jx,q0,q12,q13,q14,q15,q16,q17,q19,true_or,true_and,and_true,implies_true]
    refine U_1 8 3 [12,11,10] rfl rfl ?_
    simp only [go_sem,jq,jj,jy,jv,jk,jx,q0,q12,q13,q14,q15,q16,q17,q19,true_or,true_and,and_true,implies_true]
    refine znE (s:=p1) rfl H1.rp.1 (fun g hg=>own g (H1.rp.2 g hg).1) ?_
    refine Evs ?_
    refine ⟨rfl,by simp only [maxLen];omega,by omega,fun ad cap h2 P=>?_⟩
    have P':Pub (znC hk p1) 53 (Enc.size DOption) (p1.l ++ [o]).length ((p1.l ++ [o]).flatMap Enc.enc) ad cap h2:=by
     rw [List.length_append,List.flatMap_append];exact P
    obtain ⟨le2,kb2,rp2,oth2⟩:=zLV H1.le H1.nbx H1.rp P'
    obtain ⟨rc2,dc2⟩:=oth2 H1.rc H1.d1
    obtain ⟨rb2,db2⟩:=oth2 H1.rb H1.d2
    have nb2:h2 b ≠ none:=by rw [kb2];exact H1.nbx
    have bx2:=H1.bx
    rw [← kb2] at bx2
    obtain ⟨q0,q12,q13,q14,q15,q16,q17,q19⟩:=zLW bx2
    rw [show Value.slice ad (p1.l.length+1) cap=(Sl.mk ad cap (p1.l ++ [o])).val from by simp only [Sl.val,List.length_append,List.length_singleton]]
    try simp only [go_sem,jq,jj,jy,jv,jk,jx,q0,q12,q13,q14,q15,q16,q17,q19,true_or,true_and,and_true,implies_true]
    refine U_1 15 3 [] rfl rfl ?_
    simp only [go_sem,jq,jj,jy,jv,jk,jx,q0,q12,q13,q14,q15,q16,q17,q19,true_or,true_and,and_true,implies_true]
    refine znE (s:=c1) rfl rc2.1 (fun g hg=>own g (rc2.2 g hg).1) ?_
    refine Evs ?_
    refine ⟨rfl,by simp only [maxLen];omega,by omega,fun ad2 cap2 h3 P2=>?_⟩
    have P2':Pub (znC h2 c1) 3 (Enc.size Int) (c1.l ++ [(k:Int)]).length ((c1.l ++ [(k:Int)]).flatMap Enc.enc) ad2 cap2 h3:=by
     rw [List.length_append,List.flatMap_append];exact P2
    obtain ⟨le3,kb3,rc3,oth3⟩:=zLV le2 nb2 rc2 P2'
    obtain ⟨rp3,dp3⟩:=oth3 rp2 dc2.symm
    obtain ⟨rb3,db3⟩:=oth3 rb2 H1.d3
    have bx3:=bx2
    rw [← kb3] at bx3
    obtain ⟨q0,q12,q13,q14,q15,q16,q17,q19⟩:=zLW bx3
    rw [show Value.slice ad2 (c1.l.length+1) cap2=(Sl.mk ad2 cap2 (c1.l ++ [(k:Int)])).val from by simp only [Sl.val,List.length_append,List.length_singleton]]
    try simp only [go_sem,jq,jj,jy,jv,jk,jx,q0,q12,q13,q14,q15,q16,q17,q19,true_or,true_and,and_true,implies_true]
    refine U_t [16,17] rfl ?_
    simp only [go_sem,jq,jj,jy,jv,jk,jx,q0,q12,q13,q14,q15,q16,q17,q19,true_or,true_and,and_true,implies_true]
    refine U_1 18 1 [] rfl rfl ?_
    simp only [go_sem,jq,jj,jy,jv,jk,jx,q0,q12,q13,q14,q15,q16,q17,q19,true_or,true_and,and_true,implies_true]
    refine zLX (xs':=plC x L (.func (.func wfn) #[] cs.toArray) (Sl.mk ad cap (p1.l ++ [o])) c1 be1 n0 n1 fo1) (by simp only [go_sem]) (by simp only [go_sem]) rfl rfl bx3 (own b H.nb) (by simp [plC]) rfl ?_
    refine Evs ?_
    refine U_t [19,20] rfl ?_
    simp only [go_sem,jq,jj,jy,jv,jk,jx,q0,q12,q13,q14,q15,q16,q17,q19,true_or,true_and,and_true,implies_true]
    refine U_1 21 1 [] rfl rfl ?_
    simp only [go_sem,jq,jj,jy,jv,jk,jx,q0,q12,q13,q14,q15,q16,q17,q19,true_or,true_and,and_true,implies_true]
    refine zLX (xs':=plC x L (.func (.func wfn) #[] cs.toArray) (Sl.mk ad cap (p1.l ++ [o])) (Sl.mk ad2 cap2 (c1.l ++ [(k:Int)])) be1 n0 n1 fo1) (by simp only [go_sem]) (by simp only [go_sem]) rfl rfl Hp.ins_same (own b H.nb) (by simp [plC]) rfl ?_
    refine Evs ?_
    rw [Hp.ins_ins]
    refine U_d ?_
    refine ⟨(_,Sl.mk ad cap (p1.l ++ [o]),Sl.mk ad2 cap2 (c1.l ++ [(k:Int)])),[],⟨PV.mk2 H1 le3 rp3 (fun y hy=>?_) rc3 rb3 dp3.symm db2 db3,rfl,rfl⟩,?_⟩
    ·rcases List.mem_append.1 hy with hy|hy
     ·exact H1.op y hy
     ·rw [List.mem_singleton.1 hy];exact hok0
    refine Evs ?_
    exact Gk
  rintro ⟨h5,p5,c5⟩ ⟨H5,ep5,ec5⟩
  simp only at H5 ep5 ec5
  first|refine zmR [0,1] rfl ?_|refine zmQ [0,1] rfl ?_|(refine zc3 ?_;first|refine zmR [0,1] rfl ?_|refine zmQ [0,1] rfl ?_)
  refine Evs ?_
  refine zli (ih (f - 1) (by omega) (pn ++ [k]) p5 c5 be1 n0 n1 fo1 _ h5 H5 hB1 (by rw [ep5,List.length_append,List.length_singleton];omega) (by rw [ec5,ec1,hch];simp [zs]) (by rw [ep5,List.length_append,List.length_append,List.length_singleton,List.length_singleton];omega) (fun y hy=>?_) (fun y hy=>?_)) rfl (fun g hg=>⟨hg.2,own g hg.1⟩) ?_
  ·rw [ep5] at hy
   rcases List.mem_append.1 hy with hy|hy
   ·exact hpg y (by rw [← ep1];exact hy)
   ·rw [List.mem_singleton.1 hy];exact hog
  ·rcases List.mem_append.1 hy with hy|hy
   ·exact hpb y hy
   ·rw [List.mem_singleton.1 hy];omega
  rintro v h6 kp ⟨p6,c6,be6,m06,m16,fo6,H6,ep6,ec6,hB6⟩
  obtain ⟨q0,q12,q13,q14,q15,q16,q17,q19⟩:=zLW H6.bx
  have hp6l:p6.l.length=p.l.length+1:=by rw [ep6,ep5,List.length_append,List.length_singleton,hp1l]
  have hc6l:c6.l.length=p.l.length+1:=by rw [ec6,ec5,List.length_append,List.length_singleton,hc1l]
  have hp6c:=H6.rp.1.1
  have hc6c:=H6.rc.1.1
  refine Wk ?_
  refine znv rfl ?_
  refine U_t [0,1,2,6,8,12,3,9,4,10,5,11] rfl ?_
  simp only [go_sem,jq,jj,jy,jv,jk,jx,q0,q12,q13,q14,q15,q16,q17,q19,true_or,true_and,and_true,implies_true,Int.toNat_zero,Nat.zero_mul,zmA,zmB,ite_self,Nat.sub_zero,jW]
  refine U_m 7 [13] ⟨?_,?_,trivial⟩
  ·refine U_b 7 0 [11,10,9] rfl rfl ?_
   simp only [go_sem,jq,jj,jy,jv,jk,jx,q0,q12,q13,q14,q15,q16,q17,q19,true_or,true_and,and_true,implies_true,Int.toNat_zero,Nat.zero_mul,zmA,zmB,ite_self,Nat.sub_zero,jW]
   refine ⟨by omega,?_⟩
   rw [zmC (by omega)]
   try simp only [go_sem,jq,jj,jy,jv,jk,jx,q0,q12,q13,q14,q15,q16,q17,q19,true_or,true_and,and_true,implies_true,Int.toNat_zero,Nat.zero_mul,zmA,zmB,ite_self,Nat.sub_zero,jW]
   refine U_t [14,15] rfl ?_
   simp only [go_sem,jq,jj,jy,jv,jk,jx,q0,q12,q13,q14,q15,q16,q17,q19,true_or,true_and,and_true,implies_true,Int.toNat_zero,Nat.zero_mul,zmA,zmB,ite_self,Nat.sub_zero,jW]
   refine U_m 13 [16] ⟨?_,?_,trivial⟩
   ·refine U_b 13 0 [15,14] rfl rfl ?_
    simp only [go_sem,jq,jj,jy,jv,jk,jx,q0,q12,q13,q14,q15,q16,q17,q19,true_or,true_and,and_true,implies_true,Int.toNat_zero,Nat.zero_mul,zmA,zmB,ite_self,Nat.sub_zero,jW]
    refine ⟨by omega,?_⟩
    rw [zmC (by omega)]
    try simp only [go_sem,jq,jj,jy,jv,jk,jx,q0,q12,q13,q14,q15,q16,q17,q19,true_or,true_and,and_true,implies_true,Int.toNat_zero,Nat.zero_mul,zmA,zmB,ite_self,Nat.sub_zero,jW]
    refine U_1 16 1 [] rfl rfl ?_
    simp only [go_sem,jq,jj,jy,jv,jk,jx,q0,q12,q13,q14,q15,q16,q17,q19,true_or,true_and,and_true,implies_true,Int.toNat_zero,Nat.zero_mul,zmA,zmB,ite_self,Nat.sub_zero,jW]
    refine zLX (xs':=plC x L (.func (.func wfn) #[] cs.toArray) (p6.to p.l.length) c6 be6 m06 m16 fo6) (by simp only [go_sem]) (by simp only [go_sem]) rfl rfl H6.bx (own b H.nb) (by simp [plC]) rfl ?_
    obtain ⟨q0,q12,q13,q14,q15,q16,q17,q19⟩:=zLW (h:=h6.ins b (.cells (plC x L (.func (.func wfn) #[] cs.toArray) (p6.to p.l.length) c6 be6 m06 m16 fo6).toArray 132 (0,0))) Hp.ins_same
    try simp only [go_sem,jq,jj,jy,jv,jk,jx,q0,q12,q13,q14,q15,q16,q17,q19,true_or,true_and,and_true,implies_true,Int.toNat_zero,Nat.zero_mul,zmA,zmB,ite_self,Nat.sub_zero,jW]
    refine U_t [17,18] rfl ?_
    simp only [go_sem,jq,jj,jy,jv,jk,jx,q0,q12,q13,q14,q15,q16,q17,q19,true_or,true_and,and_true,implies_true,Int.toNat_zero,Nat.zero_mul,zmA,zmB,ite_self,Nat.sub_zero,jW]
    refine U_1 19 1 [] rfl rfl ?_
    simp only [go_sem,jq,jj,jy,jv,jk,jx,q0,q12,q13,q14,q15,q16,q17,q19,true_or,true_and,and_true,implies_true,Int.toNat_zero,Nat.zero_mul,zmA,zmB,ite_self,Nat.sub_zero,jW]
    refine zLX (xs':=plC x L (.func (.func wfn) #[] cs.toArray) (p6.to p.l.length) (c6.to p.l.length) be6 m06 m16 fo6) (by simp only [go_sem]) (by simp only [go_sem]) rfl rfl Hp.ins_same (own b H.nb) (by simp [plC]) rfl ?_
    refine Evs ?_
    rw [Hp.ins_ins]
    refine U_d ?_
    refine Wk ?_
    refine ⟨(k+1,_,p6.to p.l.length,c6.to p.l.length,be6,m06,m16,fo6),[],⟨hlt,PV.mk2 H6 H6.le (H6.rp.cut (by omega)) (fun y hy=>H6.op y (List.mem_of_mem_take hy)) (H6.rc.cut (by omega)) H6.rb H6.d1 H6.d2 H6.d3,?_,?_,?_⟩,by simp only;omega,?_⟩
    ·show p6.l.take p.l.length=p.l
     rw [ep6,ep5,ep1]
     exact List.take_left' rfl
    ·show c6.l.take p.l.length=ch.l
     rw [ec6,ec5,ec1]
     exact List.take_left' (by rw [hch,zAH,hpn])
    ·simp only
     rw [List.range_succ,List.foldl_append,List.foldl_cons,List.foldl_nil,hstep,if_pos hq]
     have hB7:=hB6
     rw [show p5.l.length=p.l.length+1 by rw [ep5,List.length_append,List.length_singleton,hp1l],ep5,ep1,List.map_append,List.map_cons,List.map_nil] at hB7
     exact hB7
    refine Evs ?_
    exact Gi (zjA hlt (by omega))
   ·refine U_b 16 1 [] rfl rfl ?_
    simp only [go_sem,jq,jj,jy,jv,jk,jx,q0,q12,q13,q14,q15,q16,q17,q19,true_or,true_and,and_true,implies_true,Int.toNat_zero,Nat.zero_mul,zmA,zmB,ite_self,Nat.sub_zero,jW]
    refine zLX (xs':=plC x L (.func (.func wfn) #[] cs.toArray) (p6.to p.l.length) c6 be6 m06 m16 fo6) (by simp only [go_sem]) (by simp only [go_sem]) rfl rfl H6.bx (own b H.nb) (by simp [plC]) rfl ?_
    obtain ⟨q0,q12,q13,q14,q15,q16,q17,q19⟩:=zLW (h:=h6.ins b (.cells (plC x L (.func (.func wfn) #[] cs.toArray) (p6.to p.l.length) c6 be6 m06 m16 fo6).toArray 132 (0,0))) Hp.ins_same
    try simp only [go_sem,jq,jj,jy,jv,jk,jx,q0,q12,q13,q14,q15,q16,q17,q19,true_or,true_and,and_true,implies_true,Int.toNat_zero,Nat.zero_mul,zmA,zmB,ite_self,Nat.sub_zero,jW]
    refine U_1 13 0 [] rfl rfl ?_
    simp only [go_sem,jq,jj,jy,jv,jk,jx,q0,q12,q13,q14,q15,q16,q17,q19,true_or,true_and,and_true,implies_true,Int.toNat_zero,Nat.zero_mul,zmA,zmB,ite_self,Nat.sub_zero,jW]
    refine ⟨by omega,?_⟩
    rw [zmC (by omega)]
    try simp only [go_sem,jq,jj,jy,jv,jk,jx,q0,q12,q13,q14,q15,q16,q17,q19,true_or,true_and,and_true,implies_true,Int.toNat_zero,Nat.zero_mul,zmA,zmB,ite_self,Nat.sub_zero,jW]
    refine U_t [17,18] rfl ?_
    simp only [go_sem,jq,jj,jy,jv,jk,jx,q0,q12,q13,q14,q15,q16,q17,q19,true_or,true_and,and_true,implies_true,Int.toNat_zero,Nat.zero_mul,zmA,zmB,ite_self,Nat.sub_zero,jW]
    refine U_1 19 1 [] rfl rfl ?_
    simp only [go_sem,jq,jj,jy,jv,jk,jx,q0,q12,q13,q14,q15,q16,q17,q19,true_or,true_and,and_true,implies_true,Int.toNat_zero,Nat.zero_mul,zmA,zmB,ite_self,Nat.sub_zero,jW]
    refine zLX (xs':=plC x L (.func (.func wfn) #[] cs.toArray) (p6.to p.l.length) (c6.to p.l.length) be6 m06 m16 fo6) (by simp only [go_sem]) (by simp only [go_sem]) rfl rfl Hp.ins_same (own b H.nb) (by simp [plC]) rfl ?_
    refine Evs ?_
    rw [Hp.ins_ins]
    refine U_d ?_
    refine Wk ?_
    refine ⟨(k+1,_,p6.to p.l.length,c6.to p.l.length,be6,m06,m16,fo6),[],⟨hlt,PV.mk2 H6 H6.le (H6.rp.cut (by omega)) (fun y hy=>H6.op y (List.mem_of_mem_take hy)) (H6.rc.cut (by omega)) H6.rb H6.d1 H6.d2 H6.d3,?_,?_,?_⟩,by simp only;omega,?_⟩
    ·show p6.l.take p.l.length=p.l
     rw [ep6,ep5,ep1]
     exact List.take_left' rfl
    ·show c6.l.take p.l.length=ch.l
     rw [ec6,ec5,ec1]
     exact List.take_left' (by rw [hch,zAH,hpn])
    ·simp only
     rw [List.range_succ,List.foldl_append,List.foldl_cons,List.foldl_nil,hstep,if_pos hq]
     have hB7:=hB6
     rw [show p5.l.length=p.l.length+1 by rw [ep5,List.length_append,List.length_singleton,hp1l],ep5,ep1,List.map_append,List.map_cons,List.map_nil] at hB7
     exact hB7
    refine Evs ?_
    exact Gi (zjA hlt (by omega))
  ·refine U_b 13 0 [5,4,3] rfl rfl ?_
   simp only [go_sem,jq,jj,jy,jv,jk,jx,q0,q12,q13,q14,q15,q16,q17,q19,true_or,true_and,and_true,implies_true,Int.toNat_zero,Nat.zero_mul,zmA,zmB,ite_self,Nat.sub_zero,jW]
   refine ⟨by omega,?_⟩
   rw [zmC (by omega)]
   try simp only [go_sem,jq,jj,jy,jv,jk,jx,q0,q12,q13,q14,q15,q16,q17,q19,true_or,true_and,and_true,implies_true,Int.toNat_zero,Nat.zero_mul,zmA,zmB,ite_self,Nat.sub_zero,jW]
   refine U_1 7 0 [] rfl rfl ?_
   simp only [go_sem,jq,jj,jy,jv,jk,jx,q0,q12,q13,q14,q15,q16,q17,q19,true_or,true_and,and_true,implies_true,Int.toNat_zero,Nat.zero_mul,zmA,zmB,ite_self,Nat.sub_zero,jW]
   refine ⟨by omega,?_⟩
   rw [zmC (by omega)]
   try simp only [go_sem,jq,jj,jy,jv,jk,jx,q0,q12,q13,q14,q15,q16,q17,q19,true_or,true_and,and_true,implies_true,Int.toNat_zero,Nat.zero_mul,zmA,zmB,ite_self,Nat.sub_zero,jW]
   refine U_t [14,15] rfl ?_
   simp only [go_sem,jq,jj,jy,jv,jk,jx,q0,q12,q13,q14,q15,q16,q17,q19,true_or,true_and,and_true,implies_true,Int.toNat_zero,Nat.zero_mul,zmA,zmB,ite_self,Nat.sub_zero,jW]
   refine U_1 16 1 [] rfl rfl ?_
   simp only [go_sem,jq,jj,jy,jv,jk,jx,q0,q12,q13,q14,q15,q16,q17,q19,true_or,true_and,and_true,implies_true,Int.toNat_zero,Nat.zero_mul,zmA,zmB,ite_self,Nat.sub_zero,jW]
   refine zLX (xs':=plC x L (.func (.func wfn) #[] cs.toArray) (p6.to p.l.length) c6 be6 m06 m16 fo6) (by simp only [go_sem]) (by simp only [go_sem]) rfl rfl H6.bx (own b H.nb) (by simp [plC]) rfl ?_
   obtain ⟨q0,q12,q13,q14,q15,q16,q17,q19⟩:=zLW (h:=h6.ins b (.cells (plC x L (.func (.func wfn) #[] cs.toArray) (p6.to p.l.length) c6 be6 m06 m16 fo6).toArray 132 (0,0))) Hp.ins_same
   try simp only [go_sem,jq,jj,jy,jv,jk,jx,q0,q12,q13,q14,q15,q16,q17,q19,true_or,true_and,and_true,implies_true,Int.toNat_zero,Nat.zero_mul,zmA,zmB,ite_self,Nat.sub_zero,jW]
   refine U_t [17,18] rfl ?_
   simp only [go_sem,jq,jj,jy,jv,jk,jx,q0,q12,q13,q14,q15,q16,q17,q19,true_or,true_and,and_true,implies_true,Int.toNat_zero,Nat.zero_mul,zmA,zmB,ite_self,Nat.sub_zero,jW]
   refine U_1 19 1 [] rfl rfl ?_
   simp only [go_sem,jq,jj,jy,jv,jk,jx,q0,q12,q13,q14,q15,q16,q17,q19,true_or,true_and,and_true,implies_true,Int.toNat_zero,Nat.zero_mul,zmA,zmB,ite_self,Nat.sub_zero,jW]
   refine zLX (xs':=plC x L (.func (.func wfn) #[] cs.toArray) (p6.to p.l.length) (c6.to p.l.length) be6 m06 m16 fo6) (by simp only [go_sem]) (by simp only [go_sem]) rfl rfl Hp.ins_same (own b H.nb) (by simp [plC]) rfl ?_
   refine Evs ?_
   rw [Hp.ins_ins]
   refine U_d ?_
   refine Wk ?_
   refine ⟨(k+1,_,p6.to p.l.length,c6.to p.l.length,be6,m06,m16,fo6),[],⟨hlt,PV.mk2 H6 H6.le (H6.rp.cut (by omega)) (fun y hy=>H6.op y (List.mem_of_mem_take hy)) (H6.rc.cut (by omega)) H6.rb H6.d1 H6.d2 H6.d3,?_,?_,?_⟩,by simp only;omega,?_⟩
   ·show p6.l.take p.l.length=p.l
    rw [ep6,ep5,ep1]
    exact List.take_left' rfl
   ·show c6.l.take p.l.length=ch.l
    rw [ec6,ec5,ec1]
    exact List.take_left' (by rw [hch,zAH,hpn])
   ·simp only
    rw [List.range_succ,List.foldl_append,List.foldl_cons,List.foldl_nil,hstep,if_pos hq]
    have hB7:=hB6
    rw [show p5.l.length=p.l.length+1 by rw [ep5,List.length_append,List.length_singleton,hp1l],ep5,ep1,List.map_append,List.map_cons,List.map_nil] at hB7
    exact hB7
   refine Evs ?_
   exact Gi (zjA hlt (by omega))
 ·have hge:=zjI hd
  obtain rfl:k=L.l[p.l.length].l.length:=by omega
  refine Wk ?_
  refine ⟨p1,c1,be1,n0,n1,fo1,H1,ep1,ec1,?_⟩
  rw [zMo hi,srW,if_neg (by rw [hq];exact Bool.false_ne_true),List.length_map]
  exact hB1
theorem RowF.del {α:Type} [Enc α] {e:TypeId} {hb h:Hp} {b:Nat} {s:Sl α} (H:RowF e hb h b s):RowAt e (h.del b) s:=H.1.keep fun g hg=>by
 simp only [Hp.del]
 rw [if_neg (H.2 g hg).2]
def PR (L:List (Sl DOption)) (pn:List Nat) (p:List DOption):Prop:=p.length=pn.length∧∀ i (hi:i < pn.length) (hi2:i < p.length),∃ (h1:i < L.length) (h2:pn[i] < L[i].l.length),p[i]=L[i].l[pn[i]]
theorem PR.snoc {L:List (Sl DOption)} {pn:List Nat} {p:List DOption} (H:PR L pn p) {n:Nat} (h1:pn.length < L.length) (h2:n < L[pn.length].l.length):PR L (pn ++ [n]) (p ++ [L[pn.length].l[n]]):=by
 refine ⟨by rw [List.length_append,List.length_append,H.1];rfl,fun i hi hi2=>?_⟩
 rw [List.length_append,List.length_singleton] at hi hi2
 rcases Nat.lt_or_ge i pn.length with h|h
 ·obtain ⟨a1,a2,a3⟩:=H.2 i h (by rw [H.1];exact h)
  refine ⟨a1,?_,?_⟩
  ·rw [List.getElem_append_left h];exact a2
  ·rw [List.getElem_append_left (by rw [H.1];exact h),a3]
   simp only [List.getElem_append_left h]
 ·obtain rfl:i=pn.length:=by omega
  refine ⟨h1,?_,?_⟩
  ·simpa using h2
  ·have e1:(p ++ [L[pn.length].l[n]])[pn.length]'(by rw [List.length_append,H.1,List.length_singleton];omega)=L[pn.length].l[n]:=by
    rw [List.getElem_append_right (by rw [H.1];exact Nat.le_refl _)]
    simp
   rw [e1]
   simp
theorem zMr (x:DHarbour) (a:Sl DCall) (h:Hp) (hx:Enc.ok h x) (ha:a.Ok h) (hz:a.l.length≤1048576):Ct jV 30 [x.v,a.val] h fun v h'=>∃ s:Sl (Sl DOption),v=s.val∧s.l.map (fun l=>l.l.map (Con.con (α:=DOption)))=zKs (Con.con x) a.l∧s.Ok h'∧Mine h h' s:=by
 have hl:=ha.max
 refine zdn (fun A W=>by simp) Tryz.func30 rfl rfl (by simp) fun W0=>?_
 refine Wk ?_
 refine zl0 (ι:=Nat × List (Sl DOption) × Hp) (fun i=>⟨[(2,true,.c (.p 0 0)),(4,true,.c (.v (.slice none 0 0))),(5,true,.c (.s 1)),(9,true,.c (.v a.val)),(10,true,.c (.v (.int .i64 a.l.length))),(11,true,.c (.v (.int .i64 i.1)))],[(0,.box 40 [.v (.int .i64 x.forecast.tide.mean),.v x.forecast.tide.parts.val,.v x.forecast.surges.val,.v x.chart.points.val,.v x.chart.segments.val,.v x.fleet.val,.v (.int .i64 x.regime.gap),.v (.bool x.regime.noMeet),.v (.int .i64 x.crew.tugs),.v (.int .i64 x.crew.pilots),.v (.int .i64 x.crew.rest),.v x.crew.moves.val]),(1,.row 48 1 i.2.1.length (i.2.1.flatMap Enc.enc))],i.2.2,2⟩) (fun i=>i.1≤a.l.length∧i.2.1.length=i.1∧i.2.1.map (fun l=>l.l.map (Con.con (α:=DOption)))=(a.l.take i.1).map (zy1 (Con.con x))∧(∀ y ∈ i.2.1,Enc.ok i.2.2 y)∧Mines h i.2.2 i.2.1∧h.le i.2.2) (fun i=>a.l.length - i.1) (0,[],h) ⟨Nat.zero_le _,rfl,rfl,fun y hy=>(by cases hy),Mines.nil,Hp.le_refl _⟩ [0,1] ?_ ?_
 ·refine Evs ?_
  exact Gk
 rintro ⟨k,acc,hk⟩ ⟨hkl,hal,hac,hacok,hacm,hle⟩
 simp only at hkl hal hac hacok hacm hle
 have hak:=ha.mono hle
 have hxk:Enc.ok hk x:=Enc.mono hle hx
 refine Wk ?_
 refine zc9 rfl (fun hd=>?_) (fun hd=>?_)
 ·have hlt:=zjH hd
  repeat' first|refine Wa ?_|(simp only [go_sem,jq,jj,jy,jv,jk,jx,zE7 hak hlt,hak.some hlt,hlt,jW];try rfl)|refine Wb ?_|fail
  refine zkj (zzc x a.l[k] _ hxk (hak.el hlt)) rfl ?_
  rintro v h2 le2 ⟨s,rfl,es,oks,ms⟩
  refine Wk ?_
  refine ⟨by simp only [maxLen];omega,by omega,?_⟩
  refine Wk ?_
  have hle2:=Hp.le_trans hle le2
  have hw:IntKind.i64.wrap ((k:Int)+1)=((k+1:Nat):Int):=zjA hlt (by omega)
  refine ⟨(k+1,acc ++ [s],h2),[0,4],⟨hlt,?_,?_,fun y hy=>?_,Mines.snoc hacm hacok le2 hle ms,hle2⟩,by simp only;omega,?_⟩
  ·show (acc ++ [s]).length=k+1
   rw [List.length_append,hal];rfl
  ·show (acc ++ [s]).map _=(a.l.take (k+1)).map _
   rw [List.map_append,hac,List.take_succ_eq_append_getElem hlt,List.map_append]
   congr 1
   exact congrArg (fun z=>[z]) es
  ·rcases List.mem_append.1 hy with hy|hy
   ·exact Enc.mono le2 (hacok y hy)
   ·rw [List.mem_singleton.1 hy];exact oks
  refine Evs ?_
  rw [hw]
  simp only [List.flatMap_append,List.length_append]
  exact Gk
 ·have hge:=zjI hd
  refine zc6 ?_
  refine Evs ?_
  refine zlE 1 acc rfl rfl rfl rfl (by decide) hacok h hle hacm fun q h' e2 e3 e4 e5=>?_
  refine Wk ?_
  refine ⟨q,rfl,?_,e3,e5⟩
  rw [e2,hac,List.take_of_length_le hge];rfl
theorem zMs (s:Sl DOption) (h:Hp) (hs:s.Ok h):Ct jV 31 [s.val] h fun v h'=>v=.agg #[.int .i64 (zJx (s.l.map Con.con)),.int .i64 0]∧h'=h:=by
 refine zdn (fun A W=>by simp) Tryz.func31 rfl rfl (by simp) fun W0=>?_
 repeat' first|refine Wa ?_|refine zhF (fun _=>zJz s _ hs) ?_|(simp only [go_sem,jq,jj,jy,jv,jk,jx];try rfl)|refine Wb ?_|fail
theorem zMt {x:zFc} {w:List POption→Int}:∀ {L:List (List POption)} {p:List POption} {ch:List Nat} {st:BSt} {r1:List Nat} {r2:Int},(∀ l ∈ L,l.length < 100)→(∀ y ∈ ch,y < 100)→(∀ r1 r2,st=some (r1,r2)→∀ y ∈ r1,y < 100)→srW x w L p ch st=some (r1,r2)→∀ y ∈ r1,y < 100
 | [],p,ch,st,r1,r2,hL,hch,hst,h=>by
  rw [srW] at h
  split at h
  ·exact hst _ _ h
  ·cases h;exact hch
 | l :: L,p,ch,st,r1,r2,hL,hch,hst,h=>by
  rw [srW] at h
  split at h
  ·exact hst _ _ h
  ·have hl:=hL l (List.mem_cons_self ..)
   have key:∀ (ks:List Nat) (st:BSt),(∀ k ∈ ks,k < 100)→(∀ r1 r2,st=some (r1,r2)→∀ y ∈ r1,y < 100)→∀ r1 r2,ks.foldl (fun st k=>if zK7 x p (l.getD k zJX)=true then srW x w L (p ++ [l.getD k zJX]) (ch ++ [k]) st else st) st=some (r1,r2)→∀ y ∈ r1,y < 100:=by
    intro ks
    induction ks with
    | nil=>intro st _ hs r1 r2 h;exact hs r1 r2 h
    | cons k ks ih =>
     intro st hks hs r1 r2 h
     rw [List.foldl_cons] at h
     refine ih _ (fun j hj=>hks j (List.mem_cons_of_mem _ hj)) (fun q1 q2 hq=>?_) r1 r2 h
     split at hq
     ·refine zMt (fun l hl=>hL l (List.mem_cons_of_mem _ hl)) (fun y hy=>?_) hs hq
      rcases List.mem_append.1 hy with hy|hy
      ·exact hch y hy
      ·rw [List.mem_singleton.1 hy];exact hks k (List.mem_cons_self ..)
     ·exact hs q1 q2 hq
   exact key _ st (fun k hk=>by have:=List.mem_range.1 hk;omega) hst r1 r2 h
set_option maxRecDepth 30000 in
theorem zMu (x:DHarbour) (L:Sl (Sl DOption)) (wfn:Nat) (cs:List Value) (w:List POption→Int) (h:Hp) (hx:Enc.ok h x) (hL:L.Ok h) (hR:zvl x.regime=true) (hL6:L.l.length≤6) (hLn:∀ l ∈ L.l,l.l.length≤90) (hLg:∀ l ∈ L.l,∀ y ∈ l.l,zBC (Con.con x.chart) x.fleet.l y.pas.l∧y.pas.l.length≤1000)
  (hw:∀ (s:Sl DOption) (h':Hp),s.Ok h'→h.le h'→s.l.length≤6→Ct jV wfn ([s.val] ++ cs) h' fun v h2=>v=.agg #[.int .i64 (w (s.l.map Con.con)),.int .i64 0]∧h2=h') :
  Ct jV 29 [x.v,L.val,.func (.func wfn) #[] cs.toArray] h fun v h'=>∃ (s:Sl Int) (c:Int) (fo:Bool),v=.tuple #[s.val,.agg #[.int .i64 c,.int .i64 0],.bool fo]∧(s.l,c,fo)=zLB (srW (Con.con x) w (LL L) [] [] none)∧s.Ok h'∧Mine h h' s:=by
 refine zdn (fun A W=>by simp) Tryz.func29 rfl rfl (by simp) fun W0=>?_
 refine zie rfl ?_
 refine Evs ?_
 refine zie rfl ?_
 refine Evs ?_
 refine zmE 2 rfl rfl fun g hg hown=>?_
 refine Evs ?_
 have P0:PV h (h.ins g (.cells (plC x L (.func (.func wfn) #[] cs.toArray) (Sl.mk none 0 []) (Sl.mk none 0 []) (Sl.mk none 0 []) 0 0 false).toArray 132 (0,0))) g x L (.func (.func wfn) #[] cs.toArray) (Sl.mk none 0 []) (Sl.mk none 0 []) (Sl.mk none 0 []) 0 0 false :=
  ⟨Hp.ins_le hg,hx,hL,hg,Hp.ins_same,⟨⟨Nat.le_refl _,Nat.zero_le _,.inl ⟨rfl,rfl,rfl⟩⟩,fun g hg=>(by cases hg)⟩,fun y hy=>(by cases hy),⟨⟨Nat.le_refl _,Nat.zero_le _,.inl ⟨rfl,rfl,rfl⟩⟩,fun g hg=>(by cases hg)⟩,⟨⟨Nat.le_refl _,Nat.zero_le _,.inl ⟨rfl,rfl,rfl⟩⟩,fun g hg=>(by cases hg)⟩,fun g hg=>(by cases hg),fun g hg=>(by cases hg),fun g hg=>(by cases hg)⟩
 first|refine zmR [0,1] rfl ?_|refine zmQ [0,1] rfl ?_|(refine zc3 ?_;first|refine zmR [0,1] rfl ?_|refine zmQ [0,1] rfl ?_)
 try simp only [go_sem,jq,jj,jy,jv,jk,jx]
 refine zli (zMq h g x L wfn cs w hR hL6 hLn hLg hw L.l.length [] (Sl.mk none 0 []) (Sl.mk none 0 []) (Sl.mk none 0 []) 0 0 false none _ P0 ⟨rfl,rfl,rfl,rfl⟩ (Nat.zero_add _) rfl rfl (fun y hy=>(by cases hy)) (fun y hy=>(by cases hy))) rfl (fun k hk=>⟨hk.2,.inl hk.1⟩) ?_
 rintro v h6 kp ⟨p6,c6,be6,m0,m1,fo6,H6,ep6,ec6,hB6⟩
 obtain ⟨q0,q12,q13,q14,q15,q16,q17,q19⟩:=zLW H6.bx
 refine Wk ?_
 refine znv rfl ?_
 refine U_t [0,4,8,1,5,9,2,6,10,3,7,11,12] rfl ?_
 simp only [go_sem,jq,jj,jy,jv,jk,jx,q0,q12,q13,q14,q15,q16,q17,q19,true_or,true_and,and_true,implies_true]
 refine U_1 13 0 [11,10,9] rfl rfl ?_
 simp only [go_sem,jq,jj,jy,jv,jk,jx,q0,q12,q13,q14,q15,q16,q17,q19,true_or,true_and,and_true,implies_true]
 refine U_t [14] rfl ?_
 simp only [go_sem,jq,jj,jy,jv,jk,jx,q0,q12,q13,q14,q15,q16,q17,q19,true_or,true_and,and_true,implies_true]
 refine U_d ?_
 refine Wk ?_
 have hB6:BS (srW (Con.con x) w (LL L) [] [] none) be6 m0 m1 fo6:=hB6
 have hz:m1=0∧(be6.l,m0,fo6)=zLB (srW (Con.con x) w (LL L) [] [] none)∧∀ y ∈ be6.l,I64 y:=by
  cases hr:srW (Con.con x) w (LL L) [] [] none with
  | none =>
   rw [hr] at hB6
   obtain ⟨b1,b2,b3,b4⟩:=hB6
   exact ⟨b4,by rw [b1,b2,b3];rfl,fun y hy=>by rw [b2] at hy;cases hy⟩
  | some r =>
   obtain ⟨r1,r2⟩:=r
   have hlt:=zMt (fun l hl=>by
    obtain ⟨z,hz,rfl⟩:=List.mem_map.1 hl
    rw [List.length_map];exact Nat.lt_of_le_of_lt (hLn z hz) (by decide)) (fun y hy=>(by cases hy)) (fun _ _ h=>by cases h) hr
   rw [hr] at hB6
   obtain ⟨b1,b2,b3,b4⟩:=hB6
   refine ⟨b4,by rw [b1,b2,b3];rfl,fun y hy=>?_⟩
   rw [b2] at hy
   obtain ⟨z,hz,rfl⟩:=List.mem_map.1 hy
   have:=hlt z hz
   show I64 _;unfold I64;omega
 obtain ⟨rfl,hz,hI⟩:=hz
 exact ⟨be6,m0,fo6,rfl,hz,H6.rb.1.ok (by decide) hI,zBe H6.rb.1 fun g hg=>(H6.rb.2 g hg).1⟩
theorem zMv {x:DHarbour} {a:List DCall} {L:Sl (Sl DOption)} (h:L.l.map (fun l=>l.l.map (Con.con (α:=DOption)))=zKs (Con.con x) a):(∀ l ∈ L.l,l.l.length≤90)∧(∀ l ∈ L.l,∀ y ∈ l.l,zBC (Con.con x.chart) x.fleet.l y.pas.l∧y.pas.l.length≤1000)∧∀ l ∈ L.l,∀ y ∈ l.l,0≤y.cost∧y.cost≤2880∧Sz.sz (Con.con y)≤8:=by
 have key:∀ l ∈ L.l,∃ c ∈ a,l.l.map (Con.con (α:=DOption))=zy1 (Con.con x) c:=fun l hl=>by
  have:l.l.map (Con.con (α:=DOption)) ∈ zKs (Con.con x) a:=by rw [← h];exact List.mem_map.2 ⟨l,hl,rfl⟩
  rw [zKs] at this
  obtain ⟨c,hc,e⟩:=List.mem_map.1 this
  exact ⟨c,hc,e.symm⟩
 have mem:∀ l ∈ L.l,∀ y ∈ l.l,∃ c,Con.con y ∈ zy1 (Con.con x) c:=fun l hl y hy=>by
  obtain ⟨c,_,e⟩:=key l hl
  exact ⟨c,by rw [← e];exact List.mem_map.2 ⟨y,hy,rfl⟩⟩
 refine ⟨fun l hl=>?_,fun l hl y hy=>?_,fun l hl y hy=>?_⟩
 ·obtain ⟨c,_,e⟩:=key l hl
  have:=(zzi (x:=Con.con x) (a:=c)).1
  rw [← e,List.length_map] at this
  omega
 ·obtain ⟨c,hc⟩:=mem l hl y hy
  have h1:=zBK _ hc
  rw [zLG] at h1
  have h2:=(zzi (x:=Con.con x) (a:=c)).2 _ hc
  refine ⟨h1,?_⟩
  have h3:=zBP h2
  omega
 ·obtain ⟨c,hc⟩:=mem l hl y hy
  have h1:=zzu _ hc
  exact ⟨h1.1,h1.2,(zzi (x:=Con.con x) (a:=c)).2 _ hc⟩
set_option maxRecDepth 30000 in
theorem zMw (x:DHarbour) (a:Sl DCall) (h:Hp) (hx:Enc.ok h x) (ha:a.Ok h):Ct jV 6 [x.v,a.val] h fun v h'=>∃ s:Sl Int,v=.tuple #[s.val,.int .i64 (zLC (Con.con x) (Con.con a)).2.1,.bool (zLC (Con.con x) (Con.con a)).2.2]∧Con.con s=(zLC (Con.con x) (Con.con a)).1∧s.Ok h'∧Mine h h' s:=by
 rw [zJK]
 refine zdn (fun A W=>by simp) Tryz.func6 rfl rfl (by simp) fun W0=>?_
 repeat' first|refine Wa ?_|refine zhF (fun _=>zJL x a _ hx ha) ?_|(simp only [go_sem,jq,jj,jy,jv,jk,jx];try rfl)|refine Wb ?_|fail
 rw [zJK]
 refine zc9 rfl (fun hc=>?_) (fun hc=>?_)
 ·rw [Bool.not_eq_true'] at hc
  have hF:zLC (Con.con x) a.l=([],0,false):=by rw [zLC,if_neg (by rw [hc];exact Bool.false_ne_true)]
  rw [hF]
  refine Wk ?_
  exact ⟨⟨none,0,[]⟩,rfl,rfl,zmo,Mine.nil⟩
 rw [Bool.not_eq_false'] at hc
 have h6:=zKv hc
 have hz:a.l.length≤1048576:=by omega
 obtain ⟨hR,hC⟩:=zLN hc
 have hR:zvl x.regime=true:=hR
 rw [zLC,if_pos hc]
 have z2:(0:Int) < ((2:Nat):Int):=by decide
 have hF:∀ (L:Sl (Sl DOption)) (eL:L.l.map (fun l=>l.l.map (Con.con (α:=DOption)))=zKs (Con.con x) a.l) (s:Sl Int) (c:Int) (fo:Bool),(s.l,c,fo)=zLB (srW (Con.con x) zJx (LL L) [] [] none)→zLB (srI (Con.con x) (zKs (Con.con x) a.l) [] [] none)=(s.l,c,fo):=fun L eL s c fo es=>by
  have hL:LL L=zKs (Con.con x) a.l:=eL
  rw [es,hL,zLR (by rw [List.length_nil,zKu];omega) (fun y hy=>(by cases hy)) fun l hl y hy=>?_]
  rw [zKs] at hl
  obtain ⟨d,_,rfl⟩:=List.mem_map.1 hl
  exact zzu y hy
 refine Wk ?_
 refine znv rfl ?_
 refine U_t [0,1,2] rfl ?_
 refine Evs ?_
 refine U_m 3 [9] ⟨?_,?_,trivial⟩
 ·refine U_b 3 0 [0] rfl rfl ?_
  refine Evs ?_
  refine zkj (zMr x a _ hx ha hz) rfl ?_
  rintro v h1 le1 ⟨L,rfl,eL,okL,mL⟩
  try simp only [go_sem,jq,jj,jy,jv,jk,jx]
  refine U_m 4 [9] ⟨?_,?_,trivial⟩
  ·refine U_b 4 0 [] rfl rfl ?_
   refine Evs ?_
   obtain ⟨g1,g2,g3⟩:=zMv eL
   have hlL:L.l.length=a.l.length:=by have:=congrArg List.length eL;rwa [List.length_map,zKu] at this
   refine zkj (zMu x L 31 [] zJx _ (Enc.mono le1 hx) okL hR (by omega) g1 g2 (fun s h' hs _ _=>zMs s h' hs)) rfl ?_
   rintro v h2 le2 ⟨s,c,fo,rfl,es,oks,ms⟩
   try simp only [go_sem,jq,jj,jy,jv,jk,jx]
   refine U_t [5,6,7,8] rfl ?_
   refine Evs ?_
   refine U_1 9 0 [8,7,6] rfl rfl ?_
   refine Evs ?_
   refine U_t [10] rfl ?_
   refine Evs ?_
   refine U_1 11 0 [8] rfl rfl ?_
   refine Evs ?_
   refine U_t [12] rfl ?_
   refine Evs ?_
   refine U_d ?_
   refine Wk ?_
   refine znv rfl ?_
   refine U_t [0,1,3,2,4,5,6] rfl ?_
   simp only [go_sem,jq,jj,jy,jv,jk,jx,Int.toNat_zero,Nat.zero_mul,Nat.zero_add,Int.le_refl,z2,implies_true,true_and,and_true,and_self]
   refine U_d ?_
   refine Wk ?_
   rw [hF L eL s c fo es]
   exact ⟨s,rfl,con_ints,oks,ms.back le1⟩
  ·refine U_b 9 0 [0] rfl rfl ?_
   refine Evs ?_
   refine U_1 4 0 [] rfl rfl ?_
   refine Evs ?_
   obtain ⟨g1,g2,g3⟩:=zMv eL
   have hlL:L.l.length=a.l.length:=by have:=congrArg List.length eL;rwa [List.length_map,zKu] at this
   refine zkj (zMu x L 31 [] zJx _ (Enc.mono le1 hx) okL hR (by omega) g1 g2 (fun s h' hs _ _=>zMs s h' hs)) rfl ?_
   rintro v h2 le2 ⟨s,c,fo,rfl,es,oks,ms⟩
   try simp only [go_sem,jq,jj,jy,jv,jk,jx]
   refine U_t [5,6,7,8,10] rfl ?_
   refine Evs ?_
   refine U_1 11 0 [8] rfl rfl ?_
   refine Evs ?_
   refine U_t [12] rfl ?_
   refine Evs ?_
   refine U_d ?_
   refine Wk ?_
   refine znv rfl ?_
   refine U_t [0,1,3,2,4,5,6] rfl ?_
   simp only [go_sem,jq,jj,jy,jv,jk,jx,Int.toNat_zero,Nat.zero_mul,Nat.zero_add,Int.le_refl,z2,implies_true,true_and,and_true,and_self]
   refine U_d ?_
   refine Wk ?_
   rw [hF L eL s c fo es]
   exact ⟨s,rfl,con_ints,oks,ms.back le1⟩
 ·refine U_b 9 0 [1,0] rfl rfl ?_
  refine Evs ?_
  refine U_1 3 0 [0] rfl rfl ?_
  refine Evs ?_
  refine zkj (zMr x a _ hx ha hz) rfl ?_
  rintro v h1 le1 ⟨L,rfl,eL,okL,mL⟩
  try simp only [go_sem,jq,jj,jy,jv,jk,jx]
  refine U_1 4 0 [] rfl rfl ?_
  refine Evs ?_
  obtain ⟨g1,g2,g3⟩:=zMv eL
  have hlL:L.l.length=a.l.length:=by have:=congrArg List.length eL;rwa [List.length_map,zKu] at this
  refine zkj (zMu x L 31 [] zJx _ (Enc.mono le1 hx) okL hR (by omega) g1 g2 (fun s h' hs _ _=>zMs s h' hs)) rfl ?_
  rintro v h2 le2 ⟨s,c,fo,rfl,es,oks,ms⟩
  try simp only [go_sem,jq,jj,jy,jv,jk,jx]
  refine U_t [5,6,7,8,10] rfl ?_
  refine Evs ?_
  refine U_1 11 0 [8] rfl rfl ?_
  refine Evs ?_
  refine U_t [12] rfl ?_
  refine Evs ?_
  refine U_d ?_
  refine Wk ?_
  refine znv rfl ?_
  refine U_t [0,1,3,2,4,5,6] rfl ?_
  simp only [go_sem,jq,jj,jy,jv,jk,jx,Int.toNat_zero,Nat.zero_mul,Nat.zero_add,Int.le_refl,z2,implies_true,true_and,and_true,and_self]
  refine U_d ?_
  refine Wk ?_
  rw [hF L eL s c fo es]
  exact ⟨s,rfl,con_ints,oks,ms.back le1⟩
theorem zMx (w:List Nat):Sz.sz (zs w)=w.length:=by
 rw [zmu,zAH]
 have:((zs w).map Sz.sz).sum=0:=by
  induction w with
  | nil=>rfl
  | cons x w ih=>rw [show zs (x :: w)=(x:Int) :: zs w from rfl,List.map_cons,List.sum_cons,ih];rfl
 omega
end Go.Proofs.YtdeflkhkfmjckaaGreat
