/- What functions of the given program compute, as contracts. -/
import Derived.Test.YtdejfjdbcggilaaGreatXGFnRefusals13
import Derived.Test.YtdejfjdbcggilaaGreatXGFnRefusals14
import Derived.Test.YtdejfjdbcggilaaGreatXGFnRefusals17
import Derived.Test.YtdejfjdbcggilaaGreatXGFnRefusals20
set_option linter.unusedVariables false
set_option linter.unusedSimpArgs false
set_option maxRecDepth 4000
open Nat renaming reduceAdd → jq, reduceMul → jj, reduceBEq → jy, reduceLeDiff → jv, reduceLT → jk, reduceEqDiff → jx
open Bool renaming or_eq_false_iff → jp, or_eq_true → jQ, and_eq_true → jJ
open Int renaming toNat_natCast → jW, natCast_nonneg → jY
open Go.Proofs.Tryz renaming prog → jV
namespace Go.Proofs.YtdejfjdbcggilaaGreat
open Go Go.SL
set_option maxHeartbeats 1000000
set_option maxRecDepth 30000 in
theorem zN0 (hb:Hp) (bx bc bf bm bb:Nat) (x:DHarbour) (a:Sl DCall) :
  ∀ (f:Nat) (mt be:Sl Int) (most:Int) (fo:Bool) (st:Option (List Int × Int)) (h:Hp),MV hb h bx bc bf bm bb x a mt be most fo→BM st be.l most fo→mt.l.length≤6→(∀ y ∈ mt.l,y=-1∨(0≤y∧y < 6))→mt.l.countP ngF≤f →
   Cw jV 92 [mt.val,.func (.func 93) #[] #[.pointer (some ⟨bx,0,none⟩),.pointer (some ⟨bc,0,none⟩),.pointer (some ⟨bf,0,none⟩),.pointer (some ⟨bm,0,none⟩),.pointer (some ⟨bb,0,none⟩)]] h (fun k=>hb k=none∧h k ≠ none) fun v h'=>∃ (be':Sl Int) (most':Int) (fo':Bool),MV hb h' bx bc bf bm bb x a mt be' most' fo'∧BM ((alls f mt.l).foldl (bmS (zNn (Con.con x) a.l)) st) be'.l most' fo':=by
 intro f
 induction f using Nat.strongRecOn with
 | _ f ih =>
 intro mt be most fo st h H hst hl hin hcnt
 have hI:∀ y ∈ mt.l,I64 y:=fun y hy=>by
  have:=hin y hy
  unfold I64;omega
 have hm:mt.Ok h:=H.rm.ok (by decide) hI
 have hmax:=hm.max
 refine zlI (fun A W=>by simp) Tryz.func92 rfl rfl (by simp)  (fun k hk=>hk.2) fun W0 hW=>?_
 have own:∀ k,hb k=none→h k=none∨W0.own k:=fun k hk=>by
  cases hh:h k with
  | none=>exact .inl rfl
  | some o=>exact .inr (hW k ⟨hk,by rw [hh];simp⟩)
 refine Wk ?_
 refine zEE (ι:=Nat) (fun i=>⟨[(0,true,.c (.v mt.val)),(1,true,.c (.v (.func (.func 93) #[] #[.pointer (some ⟨bx,0,none⟩),.pointer (some ⟨bc,0,none⟩),.pointer (some ⟨bf,0,none⟩),.pointer (some ⟨bm,0,none⟩),.pointer (some ⟨bb,0,none⟩)]))),(4,true,.c (.v (.int .i64 i)))],[],h,0⟩) (fun i=>i≤mt.l.length∧∀ j (hj:j < mt.l.length),j < i→¬ mt.l[j] < 0) (fun i=>mt.l.length - i) 0 ⟨Nat.zero_le _,fun j _ hj=>absurd hj (Nat.not_lt_zero j)⟩ [] ?_ ?_
 ·refine Evs ?_
  exact Gk
 rintro i ⟨hi,hneg⟩
 rcases Nat.lt_or_ge i mt.l.length with hlt|hge
 ·have hlti:(i:Int) < mt.l.length:=by omega
  have hd:decide ((i:Int) < mt.l.length)=true:=decide_eq_true hlti
  repeat' first|refine Wa ?_|(simp only [go_sem,jq,jj,jy,jv,jk,jx,zkR hm hlt,hm.some hlt,hlt,hlti,jW,jY,implies_true,true_and,and_true,and_self];try rfl)|refine Wb ?_|fail
  refine zc9 rfl (fun hq=>?_) (fun hq=>?_)
  ·have hq:0≤mt.l[i]:=by simpa using hq
   refine Wk ?_
   refine ⟨i+1,[],⟨hlt,fun j hj hji=>?_⟩,by omega,?_⟩
   ·rcases Nat.lt_or_ge j i with h9|h9
    ·exact hneg j hj h9
    ·obtain rfl:j=i:=by omega
     omega
   try simp only [go_sem,jq,jj,jy,jv,jk,jx]
   exact Gi (zjA hlt (by omega))
  have hq:mt.l[i] < 0:=by simpa using hq
  have hie:mt.l[i]=-1:=by have:=hin _ (List.getElem_mem hlt);omega
  have hfx:=zNy hlt hq hneg
  obtain ⟨f1,rfl⟩:∃ f1,f=f1+1:=⟨f - 1,by
   have:=List.countP_pos_iff (p:=ngF) (l:=mt.l) |>.2 ⟨mt.l[i],List.getElem_mem hlt,decide_eq_true hq⟩
   omega⟩
  have hne:¬ ((i:Int)=mt.l.length):=by omega
  refine Wk ?_
  refine zc9 rfl (fun hz=>?_) (fun hz=>?_)
  ·exact absurd (eq_of_beq hz) hne
  refine Wk ?_
  refine zEE (ι:=Nat × Hp × Sl Int × Int × Bool) (fun k=>⟨[(0,true,.c (.v mt.val)),(1,true,.c (.v (.func (.func 93) #[] #[.pointer (some ⟨bx,0,none⟩),.pointer (some ⟨bc,0,none⟩),.pointer (some ⟨bf,0,none⟩),.pointer (some ⟨bm,0,none⟩),.pointer (some ⟨bb,0,none⟩)]))),(4,true,.c (.v (.int .i64 i))),(5,true,.c (.v (.int .i64 k.1)))],[],k.2.1,0⟩)
   (fun k=>i≤k.1∧k.1≤mt.l.length∧MV hb k.2.1 bx bc bf bm bb x a mt k.2.2.1 k.2.2.2.1 k.2.2.2.2∧BM ((allB (alls f1) mt.l i k.1).foldl (bmS (zNn (Con.con x) a.l)) st) k.2.2.1.l k.2.2.2.1 k.2.2.2.2) (fun k=>mt.l.length - k.1) (i,h,be,most,fo) ⟨Nat.le_refl _,hi,H,by simp only [zNB,List.foldl_nil];exact hst⟩ [] ?_ ?_
  ·refine Evs ?_
   exact Gk
  rintro ⟨k,hk,b1,m1,o1⟩ ⟨hik,hkl,H1,hB1⟩
  simp only at hik hkl H1 hB1
  have hmk:mt.Ok hk:=H1.rm.ok (by decide) hI
  refine Wk ?_
  refine zc9 rfl (fun hd=>?_) (fun hd=>?_)
  ·have hkt:k < mt.l.length:=by have:=of_decide_eq_true hd;omega
   have hkti:(k:Int) < mt.l.length:=by omega
   have hgd:mt.l.getD k 0=mt.l[k]:=by simp [List.getD_eq_getElem?_getD,hkt]
   repeat' first|refine Wa ?_|(simp only [go_sem,jq,jj,jy,jv,jk,jx,zkR hmk hkt,hmk.some hkt,hkt,hkti,jW,jY,implies_true,true_and,and_true,and_self];try rfl)|refine Wb ?_|fail
   refine zc9 rfl (fun hn=>?_) (fun hn=>?_)
   ·have hn:mt.l[k] < 0:=of_decide_eq_true hn
    have hke:mt.l[k]=-1:=by have:=hin _ (List.getElem_mem hkt);omega
    obtain ⟨g,cur,ga,gb,gn,gs,H2⟩:=H1.set (i:=i) (k:Int) hlt
    obtain ⟨g',cur2,ga',gb2,gn2,gs2,H3⟩:=H2.set (i:=k) (i:Int) (by rw [List.length_set];exact hkt)
    obtain rfl:g=g':=by
     have:=ga.symm.trans ga'
     cases this
     rfl
    have hsz:(mt.l.set i (k:Int)).set k (i:Int)=mat mt.l i k:=rfl
    rw [hsz] at H3
    have hv3:(Sl.mk mt.a mt.cap (mat mt.l i k)).val=mt.val:=by simp only [Sl.val,zND]
    first|refine zyi [0,0,0,0,0,0,0,1,0,1] rfl ?_|refine zyh [0,0,0,0,0,0,0,1,0,1] rfl ?_|(refine zc3 ?_;first|refine zyi [0,0,0,0,0,0,0,1,0,1] rfl ?_|refine zyh [0,0,0,0,0,0,0,1,0,1] rfl ?_)
    simp only [go_sem,jq,jj,jy,jv,jk,jx,ga,hlt,hlti,hkt,hkti,Option.map_some,za4,Option.isSome_some,jW,jY,Nat.mul_one,Nat.zero_add,Nat.add_zero,List.toList_toArray,implies_true,true_and,and_true,and_self,true_or]
    refine zl3 (by simp only [go_sem]) (by simp only [go_sem]) rfl rfl gb (own g gn) gs ?_
    simp only [go_sem,jq,jj,jy,jv,jk,jx,ga,hlt,hlti,hkt,hkti,Option.map_some,za4,Option.isSome_some,jW,jY,Nat.mul_one,Nat.zero_add,Nat.add_zero,List.toList_toArray,implies_true,true_and,and_true,and_self,true_or]
    refine zl3 (by simp only [go_sem]) (by simp only [go_sem]) rfl rfl gb2 (own g gn) gs2 ?_
    try simp only [go_sem,jq,jj,jy,jv,jk,jx]
    generalize (hk.ins g (.cells (spl i [.int .i64 (k:Int)] cur.toList).toArray 3 (0,0))).ins g (.cells (spl k [.int .i64 (i:Int)] cur2.toList).toArray 3 (0,0))=h3 at H3 ⊢
    have C:=ih f1 (by omega) (Sl.mk mt.a mt.cap (mat mt.l i k)) b1 m1 o1 _ h3 H3 hB1 (by simp only [zND];exact hl) (fun y hy=>by
     have hy:y ∈ (mt.l.set i (k:Int)).set k (i:Int):=hy
     rcases List.mem_or_eq_of_mem_set hy with hy|rfl
     ·rcases List.mem_or_eq_of_mem_set hy with hy|rfl
      ·exact hin y hy
      ·exact .inr (by omega)
     ·exact .inr (by omega)) (by have:=zNE hlt hq hkt;show (mat mt.l i k).countP ngF≤f1;omega)
    rw [hv3] at C
    first|refine zyi [0,0,1] rfl ?_|refine zyh [0,0,1] rfl ?_|(refine zc3 ?_;first|refine zyi [0,0,1] rfl ?_|refine zyh [0,0,1] rfl ?_)
    try simp only [go_sem,jq,jj,jy,jv,jk,jx]
    refine zlJ C rfl (fun g' hg'=>⟨hg'.2,own g' hg'.1⟩) ?_
    rintro v h4 kp ⟨b4,m4,o4,H4,hB4⟩
    try simp only [go_sem,jq,jj,jy,jv,jk,jx]
    obtain ⟨g5,cur5,ga5,gb5,gn5,gs5,H5⟩:=H4.set (i:=i) (-1) (by simp only [zND];exact hlt)
    obtain rfl:g=g5:=by
     have:=ga.symm.trans ga5
     cases this
     rfl
    obtain ⟨g6,cur6,ga6,gb6,gn6,gs6,H6⟩:=H5.set (i:=k) (-1) (by simp only [List.length_set,zND];exact hkt)
    obtain rfl:g=g6:=by
     have:=ga.symm.trans ga6
     cases this
     rfl
    have hbk:((mat mt.l i k).set i (-1)).set k (-1)=mt.l:=zNT hlt hkt hie hke
    simp only [hbk] at H6
    first|refine zyi [0,0,0,0,0,1,0,1] rfl ?_|refine zyh [0,0,0,0,0,1,0,1] rfl ?_|(refine zc3 ?_;first|refine zyi [0,0,0,0,0,1,0,1] rfl ?_|refine zyh [0,0,0,0,0,1,0,1] rfl ?_)
    simp only [go_sem,jq,jj,jy,jv,jk,jx,ga,hlt,hlti,hkt,hkti,Option.map_some,za4,Option.isSome_some,jW,jY,Nat.mul_one,Nat.zero_add,Nat.add_zero,List.toList_toArray,implies_true,true_and,and_true,and_self,true_or]
    refine zl3 (by simp only [go_sem]) (by simp only [go_sem]) rfl rfl gb5 (own g gn) gs5 ?_
    simp only [go_sem,jq,jj,jy,jv,jk,jx,ga,hlt,hlti,hkt,hkti,Option.map_some,za4,Option.isSome_some,jW,jY,Nat.mul_one,Nat.zero_add,Nat.add_zero,List.toList_toArray,implies_true,true_and,and_true,and_self,true_or]
    refine zl3 (by simp only [go_sem]) (by simp only [go_sem]) rfl rfl gb6 (own g gn) gs6 ?_
    try simp only [go_sem,jq,jj,jy,jv,jk,jx]
    generalize (h4.ins g (.cells (spl i [.int .i64 (-1)] cur5.toList).toArray 3 (0,0))).ins g (.cells (spl k [.int .i64 (-1)] cur6.toList).toArray 3 (0,0))=h6 at H6 ⊢
    refine Wk ?_
    refine ⟨(k+1,h6,b4,m4,o4),[],⟨by simp only;omega,hkt,H6,?_⟩,by simp only;omega,?_⟩
    ·simp only
     rw [zNC hik,if_pos (by rw [hgd];exact hn),List.foldl_append]
     exact hB4
    try simp only [go_sem,jq,jj,jy,jv,jk,jx]
    exact Gi (zjA hkt (by omega))
   ·have hn:¬ mt.l[k] < 0:=of_decide_eq_false hn
    refine Wk ?_
    refine ⟨(k+1,hk,b1,m1,o1),[],⟨by simp only;omega,hkt,H1,?_⟩,by simp only;omega,?_⟩
    ·simp only
     rw [zNC hik,if_neg (by rw [hgd];exact hn),List.append_nil]
     exact hB1
    try simp only [go_sem,jq,jj,jy,jv,jk,jx]
    exact Gi (zjA hkt (by omega))
  ·have hkn:k=mt.l.length:=by have:=of_decide_eq_false hd;omega
   subst hkn
   refine Wk ?_
   exact ⟨b1,m1,o1,H1,by rw [zNA hfx hlt];exact hB1⟩
 ·obtain rfl:i=mt.l.length:=by omega
  have hfx:=zNx fun j hj=>hneg j hj hj
  have hnl:¬ ((mt.l.length:Int) < mt.l.length):=by omega
  repeat' first|refine Wa ?_|(simp only [go_sem,jq,jj,jy,jv,jk,jx,hnl,decide_false,Bool.false_eq_true,false_implies,Bool.false_and,true_and];try rfl)|refine Wb ?_|fail
  refine zc9 rfl (fun hq=>by cases hq) (fun _=>?_)
  refine Wk ?_
  refine zc9 rfl (fun _=>?_) (fun hz=>?_)
  ·first|refine zyi [0,0,1] rfl ?_|refine zyh [0,0,1] rfl ?_|(refine zc3 ?_;first|refine zyi [0,0,1] rfl ?_|refine zyh [0,0,1] rfl ?_)
   try simp only [go_sem,jq,jj,jy,jv,jk,jx]
   refine zlJ (zNZ hb bx bc bf bm bb x a mt be most fo st h H hst (by omega) hI) rfl (fun g' hg'=>⟨hg'.2,own g' hg'.1⟩) ?_
   rintro v h' kp ⟨b4,m4,o4,H4,hB4⟩
   refine Wk ?_
   exact ⟨b4,m4,o4,H4,by rw [zNz hfx];exact hB4⟩
  ·exact absurd rfl (ne_of_beq_false hz)
set_option maxRecDepth 30000 in
theorem zN1 (x:DHarbour) (a:Sl DCall) (h:Hp) (hx:Enc.ok h x) (ha:a.Ok h):Ct jV 42 [x.v,a.val] h fun v h'=>∃ s:Sl Int,v=.tuple #[s.val,.int .i64 (zNP (Con.con x) (Con.con a)).2.1,.bool (zNP (Con.con x) (Con.con a)).2.2]∧Con.con s=(zNP (Con.con x) (Con.con a)).1∧s.Ok h'∧Mine h h' s:=by
 rw [zAQ]
 have hla:=ha.max
 refine zdn (fun A W=>by simp) Tryz.func42 rfl rfl (by simp) fun W0=>?_
 repeat' first|refine Wa ?_|refine zhF (fun _=>zAS x a _ hx ha) ?_|(simp only [go_sem,jq,jj,jy,jv,jk,jx];try rfl)|refine Wb ?_|fail
 rw [zAQ]
 refine zc9 rfl (fun hc=>?_) (fun hc=>?_)
 ·rw [Bool.not_eq_true'] at hc
  have hF:zNP (Con.con x) a.l=([],0,false):=by rw [zNP,if_neg (by rw [hc];exact Bool.false_ne_true)]
  rw [hF]
  refine Wk ?_
  exact ⟨⟨none,0,[]⟩,rfl,rfl,znp,Mine.nil⟩
 rw [Bool.not_eq_false'] at hc
 have h6:=zJy hc
 rw [zNP,if_pos hc]
 refine Wk ?_
 refine ⟨by simp only [maxLen];omega,by omega,?_⟩
 refine Wk ?_
 refine zde (ι:=Nat) (fun i=>⟨[(2,true,.c (.p 0 0)),(3,true,.c (.p 1 0)),(4,true,.c (.v (.slice none 0 0))),(5,true,.c (.v (.int .i64 0))),(6,true,.c (.v (.bool false))),(7,true,.c (.s 2)),(20,true,.c (.v (.int .i64 a.l.length))),(21,true,.c (.v (.int .i64 i)))],[(2,.row 3 1 a.l.length (conv (List.replicate i (-1:Int)) a.l.length [.int .i64 0])),(1,.box 60 [.v a.val]),(0,.box 58 [.v (.int .i64 x.forecast.tide.mean),.v x.forecast.tide.parts.val,.v x.forecast.surges.val,.v x.chart.points.val,.v x.chart.segments.val,.v x.fleet.val,.v (.int .i64 x.regime.gap),.v (.bool x.regime.noMeet),.v (.int .i64 x.crew.tugs),.v (.int .i64 x.crew.pilots),.v (.int .i64 x.crew.rest),.v x.crew.moves.val])],h,3⟩) (fun i=>i≤a.l.length) (fun i=>a.l.length - i) 0 (Nat.zero_le _) ?_ ?_
 ·refine Evs ?_
  refine ⟨?_,?_⟩
  ·exact Gk
  ·exact zj8 (zkc (α:=Int) (z:=#[.int .i64 0]) (by decide))
 intro k hk
 refine Wk ?_
 refine zc9 rfl (fun hd=>?_) (fun hd=>?_)
 ·have hlt:=zjH hd
  have hlti:(k:Int) < a.l.length:=by omega
  have hle:(List.replicate k (-1:Int)).length=k:=List.length_replicate
  repeat' first|refine Wa ?_|(simp only [go_sem,jq,jj,jy,jv,jk,jx,hlt,hlti,jW,jY];try rfl)|refine Wb ?_|fail
  refine ⟨?_,?_⟩
  ·rw [zj9 (by omega) rfl];exact Nat.le_trans (Nat.le_of_eq (by simp only [Nat.add_mul])) (Nat.mul_le_mul_right 1 (show k+1≤a.l.length from hlt))
  refine Wk ?_
  refine ⟨k+1,hlt,by omega,zjB (zjA hlt (by omega)),?_⟩
  exact zj8 (by rw [List.replicate_succ'];exact zkb hle hlt rfl)
 ·have hge:=zjI hd
  obtain rfl:k=a.l.length:=by omega
  refine zc6 ?_
  refine Evs ?_
  refine zx5 0 rfl rfl fun bx hbx ox=>?_
  refine Evs ?_
  refine zx5 1 rfl rfl fun bc hbc oc=>?_
  refine Evs ?_
  have hbx:h bx=none:=hbx
  have hbc:(h.ins bx (.cells #[.int .i64 x.forecast.tide.mean,x.forecast.tide.parts.val,x.forecast.surges.val,x.chart.points.val,x.chart.segments.val,x.fleet.val,.int .i64 x.regime.gap,.bool x.regime.noMeet,.int .i64 x.crew.tugs,.int .i64 x.crew.pilots,.int .i64 x.crew.rest,x.crew.moves.val] 58 (0,0))) bc=none:=hbc
  have nbc:bx ≠ bc:=fun e=>by rw [← e,Hp.ins_same] at hbc;cases hbc
  have leb:h.le ((h.ins bx (.cells #[.int .i64 x.forecast.tide.mean,x.forecast.tide.parts.val,x.forecast.surges.val,x.chart.points.val,x.chart.segments.val,x.fleet.val,.int .i64 x.regime.gap,.bool x.regime.noMeet,.int .i64 x.crew.tugs,.int .i64 x.crew.pilots,.int .i64 x.crew.rest,x.crew.moves.val] 58 (0,0))).ins bc (.cells #[a.val] 60 (0,0))):=Hp.le_trans (Hp.ins_le hbx) (Hp.ins_le hbc)
  have qx:((h.ins bx (.cells #[.int .i64 x.forecast.tide.mean,x.forecast.tide.parts.val,x.forecast.surges.val,x.chart.points.val,x.chart.segments.val,x.fleet.val,.int .i64 x.regime.gap,.bool x.regime.noMeet,.int .i64 x.crew.tugs,.int .i64 x.crew.pilots,.int .i64 x.crew.rest,x.crew.moves.val] 58 (0,0))).ins bc (.cells #[a.val] 60 (0,0))) bx=some (.cells #[.int .i64 x.forecast.tide.mean,x.forecast.tide.parts.val,x.forecast.surges.val,x.chart.points.val,x.chart.segments.val,x.fleet.val,.int .i64 x.regime.gap,.bool x.regime.noMeet,.int .i64 x.crew.tugs,.int .i64 x.crew.pilots,.int .i64 x.crew.rest,x.crew.moves.val] 58 (0,0)):=by rw [Hp.ins_ne nbc,Hp.ins_same]
  have qc:((h.ins bx (.cells #[.int .i64 x.forecast.tide.mean,x.forecast.tide.parts.val,x.forecast.surges.val,x.chart.points.val,x.chart.segments.val,x.fleet.val,.int .i64 x.regime.gap,.bool x.regime.noMeet,.int .i64 x.crew.tugs,.int .i64 x.crew.pilots,.int .i64 x.crew.rest,x.crew.moves.val] 58 (0,0))).ins bc (.cells #[a.val] 60 (0,0))) bc=some (.cells #[a.val] 60 (0,0)):=Hp.ins_same
  generalize (h.ins bx (.cells #[.int .i64 x.forecast.tide.mean,x.forecast.tide.parts.val,x.forecast.surges.val,x.chart.points.val,x.chart.segments.val,x.fleet.val,.int .i64 x.regime.gap,.bool x.regime.noMeet,.int .i64 x.crew.tugs,.int .i64 x.crew.pilots,.int .i64 x.crew.rest,x.crew.moves.val] 58 (0,0))).ins bc (.cells #[a.val] 60 (0,0))=hb at leb qx qc ⊢
  refine zCP 2 (List.replicate a.l.length (-1:Int)) rfl rfl (by rw [List.length_replicate]) (by exact zka (by rw [List.length_replicate];exact Nat.le_refl _)) fun mt h3 e1 R1 f1 l1 k1=>?_
  refine Evs ?_
  have l1:hb.le h3:=l1
  have f1:∀ g,mt.a=some ⟨g,0,none⟩→hb g=none:=f1
  refine zie rfl ?_
  refine Evs ?_
  refine zie rfl ?_
  refine Evs ?_
  refine zx5 3 rfl rfl fun bb hbb ob=>?_
  refine Evs ?_
  refine zx5 4 rfl rfl fun bm hbm om=>?_
  refine Evs ?_
  refine zx5 5 rfl rfl fun bf hbf of=>?_
  refine Evs ?_
  have hbb:h3 bb=none:=hbb
  have hbm:(h3.ins bb (.cells #[.slice none 0 0] 35 (0,0))) bm=none:=hbm
  have hbf:((h3.ins bb (.cells #[.slice none 0 0] 35 (0,0))).ins bm (.cells #[.int .i64 0] 3 (0,0))) bf=none:=hbf
  have d3:bm ≠ bb:=fun e=>by rw [e,Hp.ins_same] at hbm;cases hbm
  have d1:bf ≠ bm:=fun e=>by rw [e,Hp.ins_same] at hbf;cases hbf
  have d2:bf ≠ bb:=fun e=>by rw [e,Hp.ins_ne (Ne.symm d3),Hp.ins_same] at hbf;cases hbf
  have nm:h3 bm=none:=by rw [Hp.ins_ne d3] at hbm;exact hbm
  have nf:h3 bf=none:=by rw [Hp.ins_ne d1,Hp.ins_ne d2] at hbf;exact hbf
  have le6:h3.le (((h3.ins bb (.cells #[.slice none 0 0] 35 (0,0))).ins bm (.cells #[.int .i64 0] 3 (0,0))).ins bf (.cells #[.bool false] 4 (0,0))):=Hp.le_trans (Hp.ins_le hbb) (Hp.le_trans (Hp.ins_le hbm) (Hp.ins_le hbf))
  have ne3:∀ {k:Nat},h3 k=none→∀ g,mt.a=some ⟨g,0,none⟩→g ≠ k:=fun hk g hg e=>zIm R1 hg (by rw [e];exact hk)
  have M0:MV hb (((h3.ins bb (.cells #[.slice none 0 0] 35 (0,0))).ins bm (.cells #[.int .i64 0] 3 (0,0))).ins bf (.cells #[.bool false] 4 (0,0))) bx bc bf bm bb x a mt (Sl.mk none 0 []) 0 false :=
   ⟨Hp.le_trans l1 le6,Enc.mono leb hx,ha.mono leb,qx,qc,znC l1 nf,znC l1 nm,znC l1 hbb,d1,d2,d3,Hp.ins_same,(Hp.ins_ne (Ne.symm d1)).trans Hp.ins_same,(Hp.ins_ne (Ne.symm d2)).trans ((Hp.ins_ne (Ne.symm d3)).trans Hp.ins_same),zKv R1 le6,fun g hg=>⟨f1 g hg,ne3 nf g hg,ne3 nm g hg,ne3 hbb g hg⟩,⟨Nat.le_refl _,Nat.zero_le _,.inl ⟨rfl,rfl,rfl⟩⟩,fun g hg=>(by cases hg),fun g _ hg=>(by cases hg)⟩
  generalize ((h3.ins bb (.cells #[.slice none 0 0] 35 (0,0))).ins bm (.cells #[.int .i64 0] 3 (0,0))).ins bf (.cells #[.bool false] 4 (0,0))=h6' at M0 ⊢
  have C:=zN0 hb bx bc bf bm bb x a a.l.length mt (Sl.mk none 0 []) 0 false none h6' M0 ⟨rfl,rfl,rfl⟩ (by rw [e1,List.length_replicate];exact h6) (by rw [e1];exact zNV) (by rw [e1];exact zNO)
  rw [e1] at C
  first|refine zyi [0,1,1] rfl ?_|refine zyh [0,1,1] rfl ?_|(refine zc3 ?_;first|refine zyi [0,1,1] rfl ?_|refine zyh [0,1,1] rfl ?_)
  refine Evs ?_
  refine zlJ C rfl (fun k hk=>⟨hk.2,.inl (znC leb hk.1)⟩) ?_
  rintro v h7 kp ⟨be,most,fo,H7,B7⟩
  obtain ⟨q0,q1,q2,q3,q4⟩:=zNY H7
  repeat' first|refine Wa ?_|(simp only [go_sem,jq,jj,jy,jv,jk,jx,q2,q3,q4,true_or,true_and,and_true,implies_true];try rfl)|refine Wb ?_|fail
  refine zyW rfl ?_
  refine U_t [0,1,2,3,4,5] rfl ?_
  simp only [go_sem,jq,jj,jy,jv,jk,jx,q2,q3,q4,true_or,true_and,and_true,implies_true]
  refine U_d ?_
  refine Wk ?_
  have hO:=zNQ B7
  rw [hO]
  exact ⟨be,rfl,con_ints,H7.rb.ok (by decide) (zNX h6 B7),zID H7.rb fun g hg=>znC leb (H7.fb g hg).1⟩
theorem zN2 {m:List Int} {i:Nat} {u:Int} (hi:i < m.length):List.take (i * 1) (m.flatMap Enc.enc) ++ .int .i64 u :: List.drop (i * 1+1) (m.flatMap Enc.enc)=(m.set i u).flatMap Enc.enc:=by
 rw [zCX,zCX,Nat.mul_one,List.map_set]
 exact zCV (by rw [List.length_map];exact hi)
noncomputable def zN6 (x:zOw) (a:List DCall):Int:=if ((zKf x a).2.2 && (zNP x a).2.2)=true then IntKind.i64.wrap ((zKf x a).2.1 - (zNP x a).2.1) else -1
set_option maxRecDepth 30000 in
theorem zN7 (x:DHarbour) (a:Sl DCall) (h:Hp) (hx:Enc.ok h x) (ha:a.Ok h):Ct jV 32 [x.v,a.val] h fun v h'=>v=.int .i64 (zN6 (Con.con x) (Con.con a))∧h'=h:=by
 obtain ⟨⟨p1,p2,p3⟩,hp⟩:∃ B,zKf (Con.con x) (Con.con a)=B:=⟨_,rfl⟩
 obtain ⟨⟨b1,b2,b3⟩,hb⟩:∃ B,zNP (Con.con x) (Con.con a)=B:=⟨_,rfl⟩
 have c1:=zK3 x a h hx ha
 have c2:=fun h1 (le:h.le h1)=>zN1 x a h1 (Enc.mono le hx) (ha.mono le)
 simp only [hp] at c1
 simp only [hb] at c2
 refine Ct.forget ?_
 refine zdn (fun A W=>by simp) Tryz.func32 rfl rfl (by simp) fun W0=>?_
 refine Wk ?_
 refine zkr c1 rfl ?_
 rintro v h1 le1 ⟨s,rfl,es,oks,-⟩
 refine Wk ?_
 refine zkr (c2 h1 le1) rfl ?_
 rintro v h2 le2 ⟨t,rfl,et,okt,-⟩
 refine Wk ?_
 refine zc9 rfl (fun hq=>?_) (fun hq=>?_)
 ·have hq':¬ ((p3 && b3)=true):=by
   simp only [jQ,Bool.not_eq_true'] at hq
   rw [jJ]
   rintro ⟨e1,e2⟩
   rcases hq with hq|hq
   ·rw [e1] at hq;cases hq
   ·rw [e2] at hq;cases hq
  rw [show zN6 (Con.con x) (Con.con a)=-1 from by rw [zN6,hp,hb];exact if_neg hq']
  exact Wk0
 ·have hq':(p3 && b3)=true:=by
   simp only [jp,Bool.not_eq_false'] at hq
   rw [hq.1,hq.2];rfl
  rw [show zN6 (Con.con x) (Con.con a)=IntKind.i64.wrap (p2 - b2) from by rw [zN6,hp,hb];exact if_pos hq']
  exact Wk0
def sumR (f:Nat→Int):Nat→Int
 | 0=>0
 | k+1=>sumR f k+f k
theorem zRr {f:Nat→Int} (hf:∀ i,0≤f i):∀ {k:Nat},0≤sumR f k
 | 0=>Int.le_refl _
 | k+1=>by have:=zRr hf (k:=k);have:=hf k;rw [sumR];omega
theorem zRs {f:Nat→Int} (hf:∀ i,0≤f i) {i:Nat}:∀ {k:Nat},i < k→f i≤sumR f k
 | 0,h=>absurd h (Nat.not_lt_zero _)
 | k+1,h=>by
  rw [sumR]
  rcases Nat.lt_or_ge i k with h1|h1
  ·have:=zRs hf h1;have:=hf k;omega
  ·obtain rfl:i=k:=by omega
   have:=zRr hf (k:=i);omega
theorem zRt {f:Nat→Int} (hf:∀ i,0≤f i) {i j:Nat} (hij:i < j):∀ {k:Nat},j < k→f i+f j≤sumR f k
 | 0,h=>absurd h (Nat.not_lt_zero _)
 | k+1,h=>by
  rw [sumR]
  rcases Nat.lt_or_ge j k with h1|h1
  ·have:=zRt hf hij h1;have:=hf k;omega
  ·obtain rfl:j=k:=by omega
   have:=zRs hf hij;omega
theorem zRu {f g h:Nat→Int} (e:∀ i,h i=f i+g i):∀ {k:Nat},sumR h k=sumR f k+sumR g k
 | 0=>rfl
 | k+1=>by rw [sumR,sumR,sumR,zRu e,e];omega
theorem zRv {f g:Nat→Int} {n:Nat} (e:∀ i,i < n→f i≤g i):∀ {k:Nat},k≤n→sumR f k≤sumR g k
 | 0,_=>Int.le_refl _
 | k+1,h=>by rw [sumR,sumR];have:=zRv e (k:=k) (by omega);have:=e k (by omega);omega
theorem zRw:∀ {l:List POption},sumR (fun i=>(l.getD i zFE).cost) l.length=sumC l:=by
 have key:∀ (l:List POption) (k:Nat),k≤l.length→sumR (fun i=>(l.getD i zFE).cost) k=sumC (l.take k):=fun l k=>by
  induction k with
  | zero=>intro _;simp [sumR,sumC]
  | succ k ih =>
   intro h
   rw [sumR,ih (by omega),List.take_succ_eq_append_getElem h,zJW,List.getD_eq_getElem?_getD,List.getElem?_eq_getElem h]
   rfl
 intro l
 have:=key l l.length (Nat.le_refl _)
 rwa [List.take_length] at this
theorem zRx {c:zOv} {r:DRegime} {L:List (List POption)} {m:List Int} {o:Nat→POption} {n:Nat} (hM:zJt n m) (hn:n≤6) (hL:∀ i,∀ p ∈ L.getD i [],0≤p.cost∧p.cost≤2880)
  (ho:∀ i,i < n→o i ∈ L.getD i []) (hcl:∀ i j,i < j→j < n→zBa c r (o i).pas (o j).pas=false) :
  ∀ {k:Nat} {s:Int},k≤n→zNm c r L m k=some s→0≤s∧s≤sumR (fun i=>if i < n∧min i (m.getD i 0).toNat < k then (o i).cost else 0) n:=by
 obtain ⟨hl,hin,hinv⟩:=hM
 have hin':∀ i,i < n→0≤m.getD i 0∧(m.getD i 0).toNat < n∧m.getD (m.getD i 0).toNat 0=(i:Int):=fun i hi=>by
  have h1:=hin i (by omega)
  have h2:=hinv i (by omega)
  have e:m.getD i 0=m[i]'(by omega):=by rw [List.getD_eq_getElem?_getD,List.getElem?_eq_getElem (by omega)];rfl
  rw [e]
  exact ⟨h1.1,by omega,h2⟩
 have hoc:∀ i,i < n→0≤(o i).cost∧(o i).cost≤2880:=fun i hi=>hL i _ (ho i hi)
 intro k
 induction k with
 | zero =>
  intro s _ h
  rw [zNm] at h
  rw [← Option.some.inj h]
  refine ⟨Int.le_refl _,zRr fun i=>?_⟩
  split
  ·rename_i h1;exact (hoc i h1.1).1
  ·exact Int.le_refl _
 | succ k ih =>
  intro s hk h
  rw [zNm] at h
  obtain ⟨s0,h0,h⟩:=Option.bind_eq_some_iff.1 h
  obtain ⟨i1,i2⟩:=ih (by omega) h0
  have hup:sumR (fun i=>if i < n∧min i (m.getD i 0).toNat < k then (o i).cost else 0) n≤2880 * 6:=by
   have h1:sumR (fun i=>if i < n∧min i (m.getD i 0).toNat < k then (o i).cost else 0) n≤sumR (fun _=>2880) n:=zRv (n:=n) (fun i hi=>by
    split
    ·exact (hoc i hi).2
    ·decide) (Nat.le_refl _)
   have h2:∀ q:Nat,sumR (fun _=>2880) q=2880 * q:=fun q=>by
    induction q with
    | zero=>rfl
    | succ q ih=>rw [sumR,ih];omega
   rw [h2] at h1
   omega
  obtain ⟨m0,m1,m2⟩:=hin' k (by omega)
  have hb:0≤zNk c r L k (m.getD k 0)∧zNk c r L k (m.getD k 0)≤sumR (fun i=>if i < n∧min i (m.getD i 0).toNat=k then (o i).cost else 0) n∧zNk c r L k (m.getD k 0)≤5760∧s=IntKind.i64.wrap (s0+zNk c r L k (m.getD k 0)):=by
   rw [zNl] at h
   split at h
   ·cases h
   ·rename_i hb0
    refine ⟨by omega,?_,?_,(Option.some.inj h).symm⟩
    all_goals
     rw [zNk] at hb0 ⊢
     split at hb0
     ·rename_i e
      rw [if_pos e]
      have h1:=zJ4 (ho k (by omega))
      have h2:=hoc k (by omega)
      have h3:=zRs (f:=fun i=>if i < n∧min i (m.getD i 0).toNat=k then (o i).cost else 0) (fun i=>by
       split
       ·rename_i h1;exact (hoc i h1.1).1
       ·exact Int.le_refl _) (i:=k) (k:=n) (by omega)
      first
       | (rw [if_pos ⟨by omega,by omega⟩] at h3;omega)
       | (clear h3;omega)
     ·rename_i e
      rw [if_neg e]
      split at hb0
      ·rename_i e2
       rw [if_pos e2]
       have hkm:k < (m.getD k 0).toNat:=by omega
       rcases zPS (c:=c) (r:=r) (hL k) (hL (m.getD k 0).toNat) with ⟨p1,_⟩|⟨_,_,p3⟩
       ·omega
       ·have h1:=p3 (o k) (o (m.getD k 0).toNat) ⟨ho k (by omega),ho _ m1,hcl _ _ hkm m1⟩
        have h2:=hoc k (by omega)
        have h4:=hoc _ m1
        have h3:=zRt (f:=fun i=>if i < n∧min i (m.getD i 0).toNat=k then (o i).cost else 0) (fun i=>by
         split
         ·rename_i h1;exact (hoc i h1.1).1
         ·exact Int.le_refl _) hkm (k:=n) m1
        first
         | (rw [if_pos ⟨by omega,by omega⟩,if_pos ⟨m1,by rw [m2];omega⟩] at h3;omega)
         | (clear h3;omega)
      ·rename_i e2
       rw [if_neg e2]
       have h3:=zRr (f:=fun i=>if i < n∧min i (m.getD i 0).toNat=k then (o i).cost else 0) (fun i=>by
        split
        ·rename_i h1;exact (hoc i h1.1).1
        ·exact Int.le_refl _) (k:=n)
       first
        | exact h3
        | omega
  obtain ⟨b1,b2,b3,rfl⟩:=hb
  rw [zjz (by omega)]
  have e:=zRu (f:=fun i=>if i < n∧min i (m.getD i 0).toNat < k then (o i).cost else 0) (g:=fun i=>if i < n∧min i (m.getD i 0).toNat=k then (o i).cost else 0) (h:=fun i=>if i < n∧min i (m.getD i 0).toNat < k+1 then (o i).cost else 0) (fun i=>by
   by_cases h1:i < n
   ·rcases Nat.lt_trichotomy (min i (m.getD i 0).toNat) k with h2|h2|h2
    ·rw [if_pos ⟨h1,by omega⟩,if_pos ⟨h1,h2⟩,if_neg (by omega)];omega
    ·rw [if_pos ⟨h1,by omega⟩,if_neg (by omega),if_pos ⟨h1,h2⟩];omega
    ·rw [if_neg (by omega),if_neg (by omega),if_neg (by omega)];rfl
   ·rw [if_neg (by omega),if_neg (by omega),if_neg (by omega)];rfl) (k:=n)
  rw [e]
  omega
def fill (m:List Int):List Int:=(List.range m.length).map fun j=>if m.getD j 0 < 0 then (j:Int) else m.getD j 0
theorem zRy {m:List Int}:(fill m).length=m.length:=by rw [fill,List.length_map,List.length_range]
theorem zRz {m:List Int} {j:Nat} (hj:j < m.length):(fill m).getD j 0=if m.getD j 0 < 0 then (j:Int) else m.getD j 0:=by
 rw [fill,List.getD_eq_getElem?_getD,List.getElem?_map,List.getElem?_range hj];rfl
theorem zRA {a b:List Int} (hl:a.length=b.length) (h:∀ j,j < a.length→a.getD j 0=b.getD j 0):a=b :=
 List.ext_getElem hl fun j h1 h2=>by
  have:=h j h1
  rw [List.getD_eq_getElem?_getD,List.getD_eq_getElem?_getD,List.getElem?_eq_getElem h1,List.getElem?_eq_getElem h2] at this
  exact this
theorem zRB {m:List Int} (h:m.findIdx ngF=m.length):fill m=m:=zRA zRy fun j hj=>by
 rw [zRy] at hj
 rw [zRz hj,if_neg]
 have:=List.findIdx_eq_length.1 h m[j] (List.getElem_mem hj)
 rw [List.getD_eq_getElem?_getD,List.getElem?_eq_getElem hj]
 exact of_decide_eq_false this
theorem zRC:∀ {f:Nat} {m:List Int},m.countP ngF≤f→fill m ∈ alls f m
 | 0,m,h=>by
  rw [alls,zRB (zNF (by omega))]
  exact List.mem_singleton.2 rfl
 | f+1,m,h=>by
  rw [alls]
  split
  ·rename_i h1
   rw [zRB h1]
   exact List.mem_singleton.2 rfl
  ·rename_i h1
   have hle:m.findIdx ngF≤m.length:=List.findIdx_le_length
   have hil:m.findIdx ngF < m.length:=by omega
   have hn:=List.findIdx_getElem (p:=ngF) (xs:=m) (w:=hil)
   have hn:m[m.findIdx ngF] < 0:=of_decide_eq_true hn
   generalize m.findIdx ngF=i at *
   have hd:m.getD i 0 < 0:=by simpa [List.getD_eq_getElem?_getD,hil] using hn
   rw [allB,List.mem_flatMap]
   refine ⟨i,List.mem_range'_1.2 ⟨Nat.le_refl _,by omega⟩,?_⟩
   rw [if_pos hd]
   have e:fill m=fill (mat m i i):=zRA (by rw [zRy,zRy,zND]) fun j hj=>by
    rw [zRy] at hj
    rw [zRz hj,zRz (by rw [zND];exact hj),zNJ hil hil]
    by_cases e:i=j
    ·subst e
     rw [if_pos rfl,if_pos hd,if_neg (by omega)]
    ·rw [if_neg e,if_neg e]
   rw [e]
   exact zRC (by have:=zNE hil hn hil;omega)
theorem zRD {B:List Int→Int × Bool}:∀ {l:List (List Int)} {st:Option (List Int × Int)},(l.foldl (bmS B) st=none→st=none∧∀ m ∈ l,(B m).2=false) ∧
  ∀ s,l.foldl (bmS B) st=some s→(st=some s∨(s.1 ∈ l∧(B s.1).2=true∧s.2=(B s.1).1))∧(∀ m ∈ l,(B m).2=true→(B m).1≤s.2)∧∀ t,st=some t→t.2≤s.2
 | [],st=>⟨fun h=>⟨h,fun m hm=>by cases hm⟩,fun s h=>⟨.inl h,fun m hm=>(by cases hm),fun t ht=>by rw [show st=some s from h] at ht;rw [Option.some.inj ht];exact Int.le_refl _⟩⟩
 | y :: l,st=>by
  rw [List.foldl_cons]
  obtain ⟨i1,i2⟩:=zRD (B:=B) (l:=l) (st:=bmS B st y)
  have hs:(bmS B st y=none→st=none∧(B y).2=false)∧∀ s,bmS B st y=some s→(st=some s∨(s.1=y∧(B y).2=true∧s.2=(B y).1))∧((B y).2=true→(B y).1≤s.2)∧∀ t,st=some t→t.2≤s.2:=by
   cases st with
   | none =>
    have e:bmS B none y=if (B y).2=true then some (y,(B y).1) else none:=rfl
    rw [e]
    by_cases hb:(B y).2=true
    ·rw [if_pos hb]
     refine ⟨fun h=>(by cases h),fun s h=>?_⟩
     obtain rfl:=Option.some.inj h
     exact ⟨.inr ⟨rfl,hb,rfl⟩,fun _=>Int.le_refl _,fun t ht=>by cases ht⟩
    ·rw [if_neg hb]
     exact ⟨fun _=>⟨rfl,by simpa using hb⟩,fun s h=>by cases h⟩
   | some t =>
    have e:bmS B (some t) y=if (B y).2=true∧t.2 < (B y).1 then some (y,(B y).1) else some t:=rfl
    rw [e]
    by_cases hc:(B y).2=true∧t.2 < (B y).1
    ·rw [if_pos hc]
     refine ⟨fun h=>(by cases h),fun s h=>?_⟩
     obtain rfl:=Option.some.inj h
     refine ⟨.inr ⟨rfl,hc.1,rfl⟩,fun _=>Int.le_refl _,fun t' ht=>?_⟩
     rw [← Option.some.inj ht]
     show t.2≤(B y).1
     have:=hc.2;omega
    ·rw [if_neg hc]
     refine ⟨fun h=>(by cases h),fun s h=>?_⟩
     obtain rfl:=Option.some.inj h
     refine ⟨.inl rfl,fun hb=>?_,fun t' ht=>by rw [← Option.some.inj ht];exact Int.le_refl _⟩
     rcases Int.lt_or_le t.2 (B y).1 with h9|h9
     ·exact (hc ⟨hb,h9⟩).elim
     ·exact h9
  refine ⟨fun h=>?_,fun s h=>?_⟩
  ·obtain ⟨j1,j2⟩:=i1 h
   obtain ⟨k1,k2⟩:=hs.1 j1
   refine ⟨k1,fun m hm=>?_⟩
   rcases List.mem_cons.1 hm with rfl|hm
   ·exact k2
   ·exact j2 m hm
  ·obtain ⟨j1,j2,j3⟩:=i2 s h
   cases hst:bmS B st y with
   | none =>
    obtain ⟨k1,k2⟩:=hs.1 hst
    refine ⟨?_,fun m hm hb=>?_,fun t ht=>by rw [k1] at ht;cases ht⟩
    ·rcases j1 with j1|⟨a1,a2⟩
     ·rw [hst] at j1;cases j1
     ·exact .inr ⟨List.mem_cons_of_mem _ a1,a2⟩
    ·rcases List.mem_cons.1 hm with rfl|hm
     ·rw [k2] at hb;cases hb
     ·exact j2 m hm hb
   | some u =>
    obtain ⟨k1,k2,k3⟩:=hs.2 u hst
    have hu:=j3 u hst
    refine ⟨?_,fun m hm hb=>?_,fun t ht=>by have:=k3 t ht;omega⟩
    ·rcases j1 with j1|⟨a1,a2⟩
     ·rw [hst] at j1
      obtain rfl:=Option.some.inj j1
      rcases k1 with k1|⟨b1,b2,b3⟩
      ·exact .inl k1
      ·exact .inr ⟨by rw [b1];exact List.mem_cons_self ..,by rw [b1];exact b2,by rw [b1];exact b3⟩
     ·exact .inr ⟨List.mem_cons_of_mem _ a1,a2⟩
    ·rcases List.mem_cons.1 hm with rfl|hm
     ·have:=k2 hb;omega
     ·exact j2 m hm hb
theorem zRE {n:Nat}:zs (List.range n) ∈ alls n (List.replicate n (-1)):=by
 have:=zRC (f:=n) (m:=List.replicate n (-1)) zNO
 have e:fill (List.replicate n (-1))=zs (List.range n):=by
  rw [fill,List.length_replicate,zs]
  refine List.map_congr_left fun j hj=>?_
  rw [if_pos]
  simp [List.getD_eq_getElem?_getD,List.getElem?_replicate,List.mem_range.1 hj]
 rwa [e] at this
theorem zRF {n i:Nat} (hi:i < n):(zs (List.range n)).getD i 0=(i:Int):=by
 rw [zPD,List.getD_eq_getElem?_getD,List.getElem?_range hi];rfl
theorem zRG {c:zOv} {r:DRegime} {L:List (List POption)} {n:Nat} (hL:∀ i,∀ p ∈ L.getD i [],0≤p.cost∧p.cost≤2880) (hne:∀ i,i < n→L.getD i [] ≠ []):∀ {k:Nat},k≤n→∃ s,zNm c r L (zs (List.range n)) k=some s
 | 0,_=>⟨0,rfl⟩
 | k+1,hk=>by
  obtain ⟨s,hs⟩:=zRG (c:=c) (r:=r) hL hne (k:=k) (by omega)
  refine ⟨_,zNq hs ?_⟩
  rw [zRF (show k < n by omega),zNk,if_pos rfl]
  rcases zPU (hL k) with ⟨h1,_⟩|⟨h1,_⟩
  ·exact (hne k (by omega) h1).elim
  ·omega
theorem zRH {x:DHarbour} {calls:List DCall} (i:Nat):∀ p ∈ (zJu (Con.con x) calls).getD i [],0≤p.cost∧p.cost≤2880:=fun p hp=>by
 rw [List.getD_eq_getElem?_getD] at hp
 cases h:(zJu (Con.con x) calls)[i]? with
 | none=>rw [h] at hp;cases hp
 | some l =>
  rw [h] at hp
  exact zPJ l (List.mem_of_getElem? h) p hp
theorem zRI {x:DHarbour} {calls:List DCall} (hc:zAP (Con.con x) calls=true) :
  zNh calls (zs (List.range calls.length))=true ∧
  ((zKf (Con.con x) calls).2.2=true→(zNP (Con.con x) calls).2.2=true) ∧
  ((zNn (Con.con x) calls (zs (List.range calls.length))).2=true→(zNP (Con.con x) calls).2.2=true) ∧
  ((zNP (Con.con x) calls).2.2=true→zNh calls (zNP (Con.con x) calls).1=true∧(zNn (Con.con x) calls (zNP (Con.con x) calls).1).2=true∧(zNn (Con.con x) calls (zNP (Con.con x) calls).1).1=(zNP (Con.con x) calls).2.1 ∧
   ((zNn (Con.con x) calls (zs (List.range calls.length))).2=true→(zNn (Con.con x) calls (zs (List.range calls.length))).1≤(zNP (Con.con x) calls).2.1) ∧
   ((zKf (Con.con x) calls).2.2=true→0≤(zNP (Con.con x) calls).2.1∧(zNP (Con.con x) calls).2.1≤(zKf (Con.con x) calls).2.1∧(zKf (Con.con x) calls).2.1≤17280)):=by
 have hl:(zJu (Con.con x) calls).length=calls.length:=List.length_map ..
 have h6:=zPL hc
 have hzl:(zs (List.range calls.length)).length=calls.length:=by rw [zs,List.length_map,List.length_range]
 have hma:zJt calls.length (zs (List.range calls.length)):=by
  have e:∀ i (hi:i < (zs (List.range calls.length)).length),(zs (List.range calls.length))[i]=(i:Int):=fun i hi=>by
   have:=zRF (n:=calls.length) (i:=i) (by omega)
   rw [List.getD_eq_getElem?_getD,List.getElem?_eq_getElem hi] at this
   exact this
  refine ⟨hzl,fun i hi=>?_,fun i hi=>?_⟩
  ·rw [e i hi];omega
  ·rw [e i hi,jW,zRF (by omega)]
 have hmo:zNh calls (zs (List.range calls.length))=true:=by rw [zNh];exact decide_eq_true hma
 have hBM:zNP (Con.con x) calls=oBm ((alls calls.length (List.replicate calls.length (-1))).foldl (bmS (zNn (Con.con x) calls)) none):=by rw [zNP,if_pos hc]
 obtain ⟨s1,s2⟩:=zRD (B:=zNn (Con.con x) calls) (l:=alls calls.length (List.replicate calls.length (-1))) (st:=none)
 have hone:(zNn (Con.con x) calls (zs (List.range calls.length))).2=true→(zNP (Con.con x) calls).2.2=true:=fun h=>by
  rw [hBM]
  cases hr:(alls calls.length (List.replicate calls.length (-1))).foldl (bmS (zNn (Con.con x) calls)) none with
  | none =>
   have:=(s1 hr).2 _ zRE
   rw [this] at h;cases h
  | some s=>rfl
 have hserved:(zKf (Con.con x) calls).2.2=true→(zNn (Con.con x) calls (zs (List.range calls.length))).2=true:=fun h=>by
  rcases zPK hc with ⟨h1,_⟩|⟨_,w,h2,h3,_⟩
  ·rw [h1] at h;cases h
  ·obtain ⟨s,hs⟩:=zRG (c:=(Con.con x:zOw).chart) (r:=(Con.con x:zOw).regime) (L:=zJu (Con.con x) calls) (n:=calls.length) zRH (fun i hi e=>by
    have:=(zPy h3 i (by omega)).1
    rw [e] at this
    exact Nat.not_lt_zero _ this) (Nat.le_refl _)
   rw [zNn,if_pos (by rw [hc,hmo];rfl),hzl,hs]
   rfl
 refine ⟨hmo,fun h=>hone (hserved h),hone,fun h=>?_⟩
 rw [hBM] at h ⊢
 cases hr:(alls calls.length (List.replicate calls.length (-1))).foldl (bmS (zNn (Con.con x) calls)) none with
 | none=>rw [hr] at h;cases h
 | some s =>
  obtain ⟨j1,j2,_⟩:=s2 s hr
  rcases j1 with j1|⟨j1,j3,j4⟩
  case inl=>cases j1
  have hM:zJt calls.length s.1:=zNM zNN zNO _ j1
  have hMo:zNh calls s.1=true:=by rw [zNh];exact decide_eq_true hM
  refine ⟨hMo,j3,j4.symm,fun h=>j2 _ zRE h,fun h=>?_⟩
  show 0≤s.2∧s.2≤_∧_
  rcases zPK hc with ⟨h1,_⟩|⟨_,w,h2,h3,h4,h5,_⟩
  ·rw [h1] at h;cases h
  ·rw [h5]
   have hpl:=zPx h3
   have hb:=j4
   rw [zNn,if_pos (by rw [hc,hMo];rfl),hM.1] at hb
   rw [zNn,if_pos (by rw [hc,hMo];rfl),hM.1] at j3
   cases hg:zNm (Con.con x:zOw).chart (Con.con x:zOw).regime (zJu (Con.con x) calls) s.1 calls.length with
   | none=>rw [hg] at j3;cases j3
   | some z =>
    rw [hg] at hb
    have hz:s.2=z:=hb
    have hcl:∀ i j,i < j→j < calls.length→zBa (Con.con x:zOw).chart (Con.con x:zOw).regime ((picks (zJu (Con.con x) calls) w).getD i zFE).pas ((picks (zJu (Con.con x) calls) w).getD j zFE).pas=false:=fun i j hij hj=>by
     have h7:=zPA.1 h4 j (by omega)
     rw [List.nil_append,zJT,jJ,zJS,Bool.not_eq_true'] at h7
     have h8:=List.any_eq_false.1 h7.1 ((picks (zJu (Con.con x) calls) w).getD i zFE) (by
      have hil:i < ((picks (zJu (Con.con x) calls) w).take j).length:=by rw [List.length_take];omega
      have e:(picks (zJu (Con.con x) calls) w).getD i zFE=((picks (zJu (Con.con x) calls) w).take j)[i]:=by
       rw [List.getElem_take,List.getD_eq_getElem?_getD,List.getElem?_eq_getElem (by omega)];rfl
      rw [e];exact List.getElem_mem hil)
     simpa using h8
    have hoL:∀ i,i < calls.length→(picks (zJu (Con.con x) calls) w).getD i zFE ∈ (zJu (Con.con x) calls).getD i []:=fun i hi=>by
     rw [zPG hi];exact zPH h3 i hi
    obtain ⟨b1,b2⟩:=zRx (o:=fun i=>(picks (zJu (Con.con x) calls) w).getD i zFE) hM h6 zRH hoL hcl (Nat.le_refl _) hg
    have b3:sumR (fun i=>if i < calls.length∧min i (s.1.getD i 0).toNat < calls.length then ((picks (zJu (Con.con x) calls) w).getD i zFE).cost else 0) calls.length≤sumR (fun i=>((picks (zJu (Con.con x) calls) w).getD i zFE).cost) calls.length:=zRv (n:=calls.length) (fun i hi=>by
     rw [if_pos ⟨hi,by omega⟩];exact Int.le_refl _) (Nat.le_refl _)
    have b4:=zRw (l:=picks (zJu (Con.con x) calls) w)
    rw [hpl,hl] at b4
    have b5:=zKQ (l:=picks (zJu (Con.con x) calls) w) fun o ho=>by
     obtain ⟨i,hi,rfl⟩:=List.getElem_of_mem ho
     have:=zPH h3 i (by omega)
     have e:(picks (zJu (Con.con x) calls) w).getD i zFE=(picks (zJu (Con.con x) calls) w)[i]:=by rw [List.getD_eq_getElem?_getD,List.getElem?_eq_getElem hi];rfl
     rw [e] at this
     exact zGr _ this
    rw [hpl,hl] at b5
    rw [hz]
    omega
noncomputable def zRJ (x:zOw) (a:List DCall) (p:List POption) (m:List Int) (g:Int):Bool:=(zNn x a m).2 && zO3 x a p && decide (IntKind.i64.wrap (zzp p - (zNn x a m).1)=g)
theorem zRK (x:DHarbour) (a:Sl DCall) (p:Sl DOption) (m:Sl Int) (g:Int) (h:Hp) (hx:Enc.ok h x) (ha:a.Ok h) (hp:p.Ok h) (hm:m.Ok h) (hg:I64 g) (hz:Sz.sz (Con.con p)≤1048576):Ct jV 56 [x.v,a.val,p.val,m.val,.int .i64 g] h fun v h'=>v=.bool (zRJ (Con.con x) (Con.con a) (Con.con p) (Con.con m) g)∧h'=h:=by
 refine zdn (fun A W=>by simp) Tryz.func56 rfl rfl (by simp) fun W0=>?_
 repeat' first|refine Wa ?_|refine zhF (fun _=>zNv x a m _ hx ha hm) ?_|refine zhF (fun _=>zO6 x a p _ hx ha hp hz) ?_|refine zhF (fun _=>zzs p _ hp) ?_|(simp only [go_sem,jq,jj,jy,jv,jk,jx];try rfl)|refine Wb ?_|fail
set_option maxRecDepth 100000 in
theorem zRL (a0:Sl U8) (h:Hp) (oa0:a0.Ok h):Ct jV 14 [a0.val] h fun v h'=>v=.bool true:=by
 refine zdn (fun A W=>by simp) Tryz.func14 rfl rfl (by simp) fun W0=>?_
 refine Wk ?_
 refine zc9 rfl (fun hq=>?_) (fun hq=>?_)
 ·exact Wk0
 refine Wk ?_
 refine zkr (zRk a0 _ oa0) rfl ?_
 rintro v h1 le1 ⟨x,a,rfl,gx,ga,okx,oka⟩
 have hca:(Con.con a:List DCall)=a.l:=zAQ a
 have hc:=zQK gx ga
 have hn6:=zPL hc
 have qb:=zRI hc
 have pb:=(zPN hc []).2
 refine Wk ?_
 refine zEE (ι:=Nat × List Int) (fun i=>⟨[(0,true,.c (.v a0.val)),(3,true,.c (.p 0 0)),(4,true,.c (.v a.val)),(5,true,.c (.s 1)),(29,true,.c (.v (.int .i64 a.l.length))),(30,true,.c (.v (.int .i64 i.1)))],[(0,.box 58 [.v (.int .i64 x.forecast.tide.mean),.v x.forecast.tide.parts.val,.v x.forecast.surges.val,.v x.chart.points.val,.v x.chart.segments.val,.v x.fleet.val,.v (.int .i64 x.regime.gap),.v (.bool x.regime.noMeet),.v (.int .i64 x.crew.tugs),.v (.int .i64 x.crew.pilots),.v (.int .i64 x.crew.rest),.v x.crew.moves.val]),(1,.row 3 1 i.2.length (i.2.flatMap Enc.enc))],h1,2⟩)
  (fun i=>i.1≤a.l.length∧i.2=zs (List.range i.1)) (fun i=>a.l.length - i.1) (0,[]) ⟨Nat.zero_le _,rfl⟩ [0,1] ?_ ?_
 ·refine Evs ?_
  repeat' first|exact rfl|exact trivial|assumption|decide|refine And.intro ?_ ?_
 rintro ⟨i,l⟩ ⟨hi,hl⟩
 simp only at hi hl
 have hll:l.length=i:=by rw [hl,zs,List.length_map,List.length_range]
 refine Wk ?_
 refine zc9 rfl (fun hd=>?_) (fun hd=>?_)
 ·have hlt:i < a.l.length:=by have:=of_decide_eq_true hd;omega
  repeat' first|refine zc8 ?_|(refine zc5 ?_;simp only [go_sem,jq,jj,jy,jv,jk,jx])|refine zc3 ?_
  (first|refine zie rfl ?_|refine zc4 rfl ?_|(refine zc3 ?_;first|refine zie rfl ?_|refine zc4 rfl ?_));simp only [go_sem,jq,jj,jy,jv,jk,jx]
  repeat' first|refine zc8 ?_|(refine zc5 ?_;simp only [go_sem,jq,jj,jy,jv,jk,jx])|refine zc3 ?_
  (first|refine zie rfl ?_|refine zc4 rfl ?_|(refine zc3 ?_;first|refine zie rfl ?_|refine zc4 rfl ?_));simp only [go_sem,jq,jj,jy,jv,jk,jx]
  refine ⟨by simp only [maxLen];omega,by omega,?_⟩
  repeat' first|refine zc8 ?_|(refine zc5 ?_;simp only [go_sem,jq,jj,jy,jv,jk,jx])|refine zc3 ?_
  (first|refine zie rfl ?_|refine zc4 rfl ?_|(refine zc3 ?_;first|refine zie rfl ?_|refine zc4 rfl ?_));simp only [go_sem,jq,jj,jy,jv,jk,jx]
  refine ⟨(i+1,l ++ [(i:Int)]),[0,3],⟨hlt,?_⟩,(by show a.l.length - (i+1) < a.l.length - i;omega),?_⟩
  ·show l ++ [(i:Int)]=zs (List.range (i+1))
   rw [hl,zs,zs,List.range_succ,List.map_append];rfl
  simp only [go_sem,jq,jj,jy,jv,jk,jx,List.length_append,List.flatMap_append]
  repeat' first|exact zjB (zjA hlt (by omega))|exact rfl|exact trivial|assumption|decide|refine And.intro ?_ ?_
 have hin:i=a.l.length:=by have:=of_decide_eq_false hd;omega
 rw [hin] at hl
 refine zc6 ?_
 refine Evs ?_
 refine zCP 1 l rfl rfl rfl rfl fun s h3 e3 R3 f3 le3 _=>?_
 have le3:h1.le h3:=le3
 have oks:s.Ok h3:=R3.ok (by decide) fun y h9=>by
  rw [e3,hl,zs] at h9
  obtain ⟨k,hk,rfl⟩:=List.mem_map.1 h9
  have:=List.mem_range.1 hk
  show I64 _
  unfold I64;omega
 have okx3:=Enc.mono (x:=x) le3 okx
 have oka3:=oka.mono le3
 have hcs:(Con.con s:List Int)=zs (List.range a.l.length):=by rw [con_ints,e3,hl]
 refine Wk ?_
 refine zkr (zN1 x a _ okx3 oka3) rfl ?_
 rintro v h4 le4 ⟨m,rfl,em,okm,_⟩
 have okx4:=Enc.mono (x:=x) le4 okx3
 have oka4:=oka3.mono le4
 have oks4:=oks.mono le4
 rw [hca] at em
 obtain ⟨⟨mt,bd,ok⟩,hb⟩:∃ B,zNP (Con.con x) a.l=B:=⟨_,rfl⟩
 obtain ⟨⟨sm,one⟩,hs⟩:∃ B,zNn (Con.con x) a.l (zs (List.range a.l.length))=B:=⟨_,rfl⟩
 obtain ⟨⟨pc,co,sv⟩,hp⟩:∃ B,zKf (Con.con x) a.l=B:=⟨_,rfl⟩
 simp only [hb,hs,hp] at qb pb em
 obtain ⟨q1,q2,q3,q4⟩:=qb
 simp only [go_sem,jq,jj,jy,jv,jk,jx,hca,hb]
 refine Wk ?_
 refine zhF (fun _=>zNv x a s _ okx4 oka4 oks4) ?_
 simp only [go_sem,jq,jj,jy,jv,jk,jx,hca,hcs,hs]
 refine Wk ?_
 refine zkr (zK3 x a _ okx4 oka4) rfl ?_
 rintro v h5 le5 ⟨ch,rfl,ech,okch,_⟩
 have okx5:=Enc.mono (x:=x) le5 okx4
 have oka5:=oka4.mono le5
 have oks5:=oks4.mono le5
 have okm5:=okm.mono le5
 rw [hca,hp] at ech
 simp only [go_sem,jq,jj,jy,jv,jk,jx,hca,hp]
 have hgap:ok=false∨sv=false→zN6 (Con.con x) a.l=-1:=fun hh=>by
  rw [zN6,hb,hp,if_neg]
  intro he
  rw [jJ] at he
  rcases hh with hh|hh
  ·rw [hh] at he;cases he.2
  ·rw [hh] at he;cases he.1
 cases ok with
 | false =>
  have hsv:sv=false:=by
   cases sv with
   | false=>rfl
   | true=>exact (q2 rfl).symm
  have hone:one=false:=by
   cases one with
   | false=>rfl
   | true=>exact (q3 rfl).symm
  subst hsv hone
  refine Wk ?_
  refine zhF (fun _=>zAS x a _ okx5 oka5) ?_
  simp only [go_sem,jq,jj,jy,jv,jk,jx,hca,hc,Bool.not_true,Bool.not_false,Bool.true_or,Bool.or_true,Bool.or_false,Bool.false_or,Bool.and_true,Bool.true_and,Bool.and_false,Bool.false_and,Bool.false_eq_true,false_implies,true_and,and_true,implies_true,bne_self_eq_false,beq_self_eq_true,reduceCtorEq]
  refine zhF (fun _=>zNj a s _ oka5 oks5) ?_
  simp only [go_sem,jq,jj,jy,jv,jk,jx,hca,hcs,q1,Bool.not_true,Bool.not_false,Bool.true_or,Bool.or_true,Bool.or_false,Bool.false_or,Bool.and_true,Bool.true_and,Bool.and_false,Bool.false_and,Bool.false_eq_true,false_implies,true_and,and_true,implies_true,bne_self_eq_false,beq_self_eq_true,reduceCtorEq]
  repeat' first|refine zc8 ?_|(refine zc5 ?_;simp only [go_sem,jq,jj,jy,jv,jk,jx])|refine zc3 ?_
  refine zc9 rfl (fun hz=>?_) (fun hz=>?_)
  ·cases hz
  refine Wk ?_
  refine zc9 rfl (fun hz=>?_) (fun hz=>?_)
  ·refine Wk ?_
   refine zhF (fun _=>zN7 x a _ okx5 oka5) ?_
   simp only [go_sem,jq,jj,jy,jv,jk,jx,hca,hgap (.inl rfl),Bool.not_true,Bool.not_false,Bool.true_or,Bool.or_true,Bool.or_false,Bool.false_or,Bool.and_true,Bool.true_and,Bool.and_false,Bool.false_and,Bool.false_eq_true,false_implies,true_and,and_true,implies_true,bne_self_eq_false,beq_self_eq_true,reduceCtorEq]
   exact Wk0
  ·cases hz
 | true =>
  obtain ⟨r1,r2,r3,r4,r5⟩:=q4 rfl
  refine Wk ?_
  refine zhF (fun _=>zAS x a _ okx5 oka5) ?_
  simp only [go_sem,jq,jj,jy,jv,jk,jx,hca,hc,Bool.not_true,Bool.not_false,Bool.true_or,Bool.or_true,Bool.or_false,Bool.false_or,Bool.and_true,Bool.true_and,Bool.and_false,Bool.false_and,Bool.false_eq_true,false_implies,true_and,and_true,implies_true,bne_self_eq_false,beq_self_eq_true,reduceCtorEq]
  refine zhF (fun _=>zNj a s _ oka5 oks5) ?_
  simp only [go_sem,jq,jj,jy,jv,jk,jx,hca,hcs,q1,imp_self,Bool.not_true,Bool.not_false,Bool.true_or,Bool.or_true,Bool.or_false,Bool.false_or,Bool.and_true,Bool.true_and,Bool.and_false,Bool.false_and,Bool.false_eq_true,false_implies,true_and,and_true,implies_true,bne_self_eq_false,beq_self_eq_true,reduceCtorEq]
  repeat' first|refine zc8 ?_|(refine zc5 ?_;simp only [go_sem,jq,jj,jy,jv,jk,jx])|refine zc3 ?_
  refine zc9 rfl (fun hz=>?_) (fun hz=>?_)
  ·cases hz
  refine Wk ?_
  refine zc9 rfl (fun hz=>?_) (fun hz=>?_)
  ·cases hz
  refine Wk ?_
  refine zhF (fun _=>zNv x a m _ okx5 oka5 okm5) ?_
  have hbm:zNn (Con.con x) a.l mt=(bd,true):=Prod.ext r3 r2
  simp only [go_sem,jq,jj,jy,jv,jk,jx,hca,em,hbm,Bool.not_true,Bool.not_false,Bool.true_or,Bool.or_true,Bool.or_false,Bool.false_or,Bool.and_true,Bool.true_and,Bool.and_false,Bool.false_and,Bool.false_eq_true,false_implies,true_and,and_true,implies_true,bne_self_eq_false,beq_self_eq_true,reduceCtorEq]
  repeat' first|refine zc8 ?_|(refine zc5 ?_;simp only [go_sem,jq,jj,jy,jv,jk,jx])|refine zc3 ?_
  refine zEC (ι:=Unit) (fun _=>⟨[(3,true,.c (.p 0 0)),(4,true,.c (.v a.val)),(7,true,.c (.v m.val)),(8,true,.c (.v (.int .i64 bd))),(12,true,.c (.v ch.val)),(13,true,.c (.v (.int .i64 co))),(14,true,.c (.v (.bool sv))),(116,true,.c (.v (.bool false)))],[(0,.box 58 [.v (.int .i64 x.forecast.tide.mean),.v x.forecast.tide.parts.val,.v x.forecast.surges.val,.v x.chart.points.val,.v x.chart.segments.val,.v x.fleet.val,.v (.int .i64 x.regime.gap),.v (.bool x.regime.noMeet),.v (.int .i64 x.crew.tugs),.v (.int .i64 x.crew.pilots),.v (.int .i64 x.crew.rest),.v x.crew.moves.val])],h5,1⟩) (fun _=>True) ?_ ?_
  ·refine zc4 rfl ?_
   refine Evs ?_
   refine zhF (fun _=>zNj a m _ oka5 okm5) ?_
   cases one with
   | false =>
    simp only [go_sem,jq,jj,jy,jv,jk,jx,hca,em,r1,imp_self,decide_true,decide_false,ne_eq,not_true_eq_false,Bool.not_true,Bool.not_false,Bool.true_or,Bool.or_true,Bool.or_false,Bool.false_or,Bool.and_true,Bool.true_and,Bool.and_false,Bool.false_and,Bool.false_eq_true,false_implies,true_and,and_true,implies_true,bne_self_eq_false,beq_self_eq_true,reduceCtorEq]
    refine ⟨(),[0],?_⟩
    repeat' first|exact rfl|exact trivial|assumption|decide|refine And.intro ?_ ?_
   | true =>
    have r4':(bd < sm)=False:=eq_false (by have:=r4 rfl;omega)
    simp only [go_sem,jq,jj,jy,jv,jk,jx,hca,em,r1,r4',imp_self,decide_true,decide_false,ne_eq,not_true_eq_false,Bool.not_true,Bool.not_false,Bool.true_or,Bool.or_true,Bool.or_false,Bool.false_or,Bool.and_true,Bool.true_and,Bool.and_false,Bool.false_and,Bool.false_eq_true,false_implies,true_and,and_true,implies_true,bne_self_eq_false,beq_self_eq_true,reduceCtorEq]
    refine ⟨(),[0],?_⟩
    repeat' first|exact rfl|exact trivial|assumption|decide|refine And.intro ?_ ?_
  intro _ _
  repeat' first|refine zc8 ?_|(refine zc5 ?_;simp only [go_sem,jq,jj,jy,jv,jk,jx])|refine zc3 ?_
  refine zc9 rfl (fun hz=>?_) (fun hz=>?_)
  ·cases hz
  refine Wk ?_
  cases sv with
  | false =>
   refine zc9 rfl (fun hz=>?_) (fun hz=>?_)
   ·refine Wk ?_
    refine zhF (fun _=>zN7 x a _ okx5 oka5) ?_
    simp only [go_sem,jq,jj,jy,jv,jk,jx,hca,hgap (.inr rfl),Bool.not_true,Bool.not_false,Bool.true_or,Bool.or_true,Bool.or_false,Bool.false_or,Bool.and_true,Bool.true_and,Bool.and_false,Bool.false_and,Bool.false_eq_true,false_implies,true_and,and_true,implies_true,bne_self_eq_false,beq_self_eq_true,reduceCtorEq]
    exact Wk0
   ·cases hz
  | true =>
   obtain ⟨b1,b2,b3,_,_⟩:=pb rfl
   obtain ⟨r6,r7,r8⟩:=r5 rfl
   refine zc9 rfl (fun hz=>?_) (fun hz=>?_)
   ·cases hz
   refine Wk ?_
   refine zkr (zP1 x a ch _ okx5 oka5 (okch)) rfl ?_
   rintro v h6 le6 ⟨p,rfl,ep,okp,_⟩
   rw [hca,ech] at ep
   have okx6:=Enc.mono (x:=x) le6 okx5
   have oka6:=oka5.mono le6
   have okm6:=okm5.mono le6
   have zp:Sz.sz (Con.con p)≤1048576:=by rw [ep];exact zP0 _ _ _
   have hg:zN6 (Con.con x) a.l=IntKind.i64.wrap (co - bd):=by rw [zN6,hb,hp];rfl
   have hw:IntKind.i64.wrap (co - bd)=co - bd:=zjz (by omega)
   have hgi:I64 (IntKind.i64.wrap (co - bd)):=by rw [hw];unfold I64;omega
   have hle:(bd≤co)=True:=eq_true r7
   have hcg:zRJ (Con.con x) a.l (zO8 (Con.con x) a.l pc).1 mt (IntKind.i64.wrap (co - bd))=true:=by
    rw [zRJ,hbm,b2,b3]
    simp
   simp only [go_sem,jq,jj,jy,jv,jk,jx,hca,ech]
   repeat' first|refine Wa ?_|(simp only [go_sem,jq,jj,jy,jv,jk,jx,hle,decide_true,Bool.not_true,Bool.not_false,Bool.true_or,Bool.or_true,Bool.or_false,Bool.false_or,Bool.and_true,Bool.true_and,Bool.and_false,Bool.false_and,Bool.false_eq_true,false_implies,true_and,and_true,implies_true,bne_self_eq_false,beq_self_eq_true,reduceCtorEq];try rfl)|refine Wb ?_|fail
   refine zhF (fun _=>zN7 x a _ okx6 oka6) ?_
   simp only [go_sem,jq,jj,jy,jv,jk,jx,hca,hg,Bool.not_true,Bool.not_false,Bool.true_or,Bool.or_true,Bool.or_false,Bool.false_or,Bool.and_true,Bool.true_and,Bool.and_false,Bool.false_and,Bool.false_eq_true,false_implies,true_and,and_true,implies_true,bne_self_eq_false,beq_self_eq_true,reduceCtorEq]
   refine zhF (fun _=>zRK x a p m _ _ okx6 oka6 okp okm6 hgi zp) ?_
   simp only [go_sem,jq,jj,jy,jv,jk,jx,hca,em,ep,hcg,Bool.not_true,Bool.not_false,Bool.true_or,Bool.or_true,Bool.or_false,Bool.false_or,Bool.and_true,Bool.true_and,Bool.and_false,Bool.false_and,Bool.false_eq_true,false_implies,true_and,and_true,implies_true,bne_self_eq_false,beq_self_eq_true,reduceCtorEq]
   exact Wk0
end Go.Proofs.YtdejfjdbcggilaaGreat
