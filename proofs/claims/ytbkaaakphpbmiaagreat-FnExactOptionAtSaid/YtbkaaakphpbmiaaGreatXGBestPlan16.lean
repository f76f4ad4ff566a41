/- What functions of the given program compute, as contracts. -/
import Derived.Test.YtbkaaakphpbmiaaGreatSGBestPlanx15
import Derived.Test.YtbkaaakphpbmiaaGreatXGBestPlan14
import Derived.Test.YtbkaaakphpbmiaaGreatXGBestPlan9
set_option linter.unusedVariables false
set_option linter.unusedSimpArgs false
set_option maxRecDepth 4000
open Nat renaming reduceAdd → jq, reduceMul → jj, reduceBEq → jy, reduceLeDiff → jv, reduceLT → jk, reduceEqDiff → jx
open Bool renaming or_eq_false_iff → jp, or_eq_true → jQ, and_eq_true → jJ
open Int renaming toNat_natCast → jW, natCast_nonneg → jY
open Go.Proofs.Tryz renaming prog → jV
namespace Go.Proofs.YtbkaaakphpbmiaaGreat
open Go Go.SL
set_option maxHeartbeats 1000000
theorem zw1 {g:List DSegment} {pts pts':List Int} {s:Int} (h:zwT g pts s=some pts'):(0≤s∧s < g.length)∧0≤zwS (g.getD s.toNat dG) (pts.getLast?.getD 0)∧zwS (g.getD s.toNat dG) (pts.getLast?.getD 0) ∉ pts∧pts'=pts ++ [zwS (g.getD s.toNat dG) (pts.getLast?.getD 0)]:=by
 unfold zwT at h
 split at h
 ·rename_i h1
  split at h
  ·cases h
  ·rename_i h2
   rw [not_or] at h2
   exact ⟨h1,by omega,h2.2,(Option.some.inj h).symm⟩
 ·cases h
theorem zw2 {g:List DSegment} {a:Int} {r pts:List Int} {k:Nat} (hk:k < r.length) (h:ptsK g a r k=some pts):ptsK g a r (k+1)=zwT g pts r[k]:=by
 rw [ptsK,h,Option.bind_some,List.getD_eq_getElem?_getD,List.getElem?_eq_getElem hk];rfl
theorem zw3 {g:List DSegment} {a:Int} {r pts:List Int} {k:Nat} (h:ptsK g a r (k+1)=some pts):∃ p,ptsK g a r k=some p∧zwT g p (r.getD k 0)=some pts:=by
 rw [ptsK] at h
 cases hk:ptsK g a r k with
 | none=>rw [hk] at h;cases h
 | some p=>rw [hk,Option.bind_some] at h;exact ⟨p,rfl,h⟩
theorem zw4 {g:List DSegment} {a:Int} {r:List Int}:∀ {k:Nat} {pts:List Int},ptsK g a r k=some pts→pts.length=k+1
 | 0,pts,h=>by rw [ptsK] at h;rw [← Option.some.inj h];rfl
 | k+1,pts,h=>by
  obtain ⟨p,h1,h2⟩:=zw3 h
  rw [(zw1 h2).2.2.2,List.length_append,zw4 h1];rfl
theorem zw5 {g:List DSegment} {a:Int} {r:List Int}:∀ {k:Nat} {pts:List Int},ptsK g a r k=some pts→pts.Nodup
 | 0,pts,h=>by rw [ptsK] at h;rw [← Option.some.inj h];simp
 | k+1,pts,h=>by
  obtain ⟨p,h1,h2⟩:=zw3 h
  obtain ⟨_,_,h3,h4⟩:=zw1 h2
  rw [h4,List.nodup_append]
  exact ⟨zw5 h1,by simp,fun x hx y hy e=>by rw [List.mem_singleton.1 hy] at e;rw [e] at hx;exact h3 hx⟩
theorem zw6 {c:PChart} (hC:zva c=true) {a:Int} (ha:0≤a∧a < c.points.length) {r:List Int}:∀ {k:Nat} {pts:List Int},ptsK c.segments a r k=some pts→∀ x ∈ pts,0≤x∧x < c.points.length
 | 0,pts,h,x,hx=>by rw [ptsK] at h;rw [← Option.some.inj h,List.mem_singleton] at hx;rw [hx];exact ha
 | k+1,pts,h,x,hx=>by
  obtain ⟨p,h1,h2⟩:=zw3 h
  obtain ⟨h0,h3,_,h4⟩:=zw1 h2
  rw [h4] at hx
  rcases List.mem_append.1 hx with hx|hx
  ·exact zw6 hC ha h1 x hx
  ·rw [List.mem_singleton.1 hx]
   exact ⟨h3,(zwY hC (by omega) _).1⟩
theorem zw7 {l:List Int} {k:Nat} (h:l.length=k+1):l.getLast?.getD 0=l.getD k 0:=by
 rw [List.getLast?_eq_getElem?,h,List.getD_eq_getElem?_getD];rfl
def metV (l:List Int):List Value:=(List.range 8).map fun j:Nat=>.bool (decide ((j:Int) ∈ l))
def metC (l:List Int):List SC:=(metV l).map .v
theorem zw8 {l:List Int}:(metV l).length=8:=by rw [metV,List.length_map,List.length_range]
theorem zw9 {l:List Int}:(metC l).length=8:=by rw [metC,List.length_map,zw8]
theorem zxa {l:List Int} {x:Int} (h:0≤x∧x < 8):List.take x.toNat (metC l) ++ SC.v (.bool true) :: List.drop (x.toNat+1) (metC l)=metC (l ++ [x]):=by
 rw [znJ (by rw [zw9];omega)]
 apply List.ext_getElem
 ·rw [List.length_set,zw9,zw9]
 ·intro i h1 h2
  rw [zw9] at h2
  simp only [metC,metV,List.getElem_set,List.getElem_map,List.getElem_range,List.mem_append,List.mem_singleton]
  by_cases e:x.toNat=i
  ·rw [if_pos e,decide_eq_true (.inr (by omega))]
  ·rw [if_neg e]
   congr 2
   rw [decide_eq_decide]
   exact ⟨.inl,fun h=>h.resolve_right (by omega)⟩
theorem zxb {l:List Int} {x:Int} (h:0≤x∧x < 8):(metC l).getD x.toNat (.v undef)=.v (.bool (decide (x ∈ l))):=by
 have hx:x.toNat < (metC l).length:=by rw [zw9];omega
 rw [List.getD_eq_getElem?_getD,List.getElem?_eq_getElem hx]
 simp only [metC,metV,List.getElem_map,List.getElem_range,Option.getD_some,Int.toNat_of_nonneg h.1]
theorem zZO (a:Sl Int) (n:Int) (h:Hp) (ha:a.Ok h):Ct jV 273 [a.val,.int .i64 n] h fun v h'=>v=.bool (decide (n ∈ a.l))∧h'=h:=by
 have hl:=ha.max
 refine zdn (fun A W=>by simp) Tryz.func273 rfl rfl (by simp) fun W0=>?_
 refine Wk ?_
 refine zde (ι:=Nat) (fun k=>⟨[(1,true,.c (.v (.int .i64 n))),(4,true,.c (.v (.bool false))),(7,true,.c (.v a.val)),(8,true,.c (.v (.int .i64 a.l.length))),(9,true,.c (.v (.int .i64 k)))],[],h,0⟩) (fun k=>k≤a.l.length∧n ∉ a.l.take k) (fun k=>a.l.length - k) 0 ⟨Nat.zero_le _,by simp⟩ ?_ ?_
 ·refine Evs ?_
  exact Gk
 intro k hk
 refine Wk ?_
 refine zc9 rfl (fun hd=>?_) (fun hd=>?_)
 ·have hlt:=zjH hd
  repeat' first|refine Wa ?_|(simp only [go_sem,jq,jj,jy,jv,jk,jx,zkv ha hlt,ha.some hlt,hlt,jW];try rfl)|refine Wb ?_|fail
  refine zc9 rfl (fun hx=>?_) (fun hx=>?_)
  ·have hx:a.l[k]=n:=eq_of_beq hx
   refine Wk ?_
   rw [decide_eq_true (by rw [← hx];exact List.getElem_mem hlt)]
  ·have hx:¬ a.l[k]=n:=ne_of_beq_false hx
   refine Wk ?_
   refine ⟨k+1,⟨hlt,by rw [List.take_succ_eq_append_getElem hlt,List.mem_append,List.mem_singleton];exact not_or.2 ⟨hk.2,fun e=>hx e.symm⟩⟩,by omega,zjB (zjA hlt (by omega))⟩
 ·have hge:=zjI hd
  refine Wk ?_
  have h2:=hk.2
  rw [List.take_of_length_le hge] at h2
  rw [decide_eq_false h2]
theorem zZP (c:DChart) (a:Int) (r:Sl Int) (h:Hp) (hc:Enc.ok h c) (hr:r.Ok h) (ha:I64 a) (hz:r.l.length≤1048576):Ct jV 231 [c.v,.int .i64 a,r.val] h fun v h'=>∃ s:Sl Int,v=.tuple #[s.val,.bool (ptsK c.segments.l a r.l r.l.length).isSome]∧s.l=(ptsK c.segments.l a r.l r.l.length).getD []∧s.Ok h':=by
 have hl:=hr.max
 have hgm:=hc.2.max
 refine zdn (fun A W=>by simp) Tryz.func231 rfl rfl (by simp) fun W0=>?_
 refine Wk ?_
 refine znD 1 [a] rfl rfl rfl rfl fun s0 h0 e0 R0 f0 le0 k0=>?_
 refine Evs ?_
 have W0':WS 3 h0 s0:=⟨R0,fun x hx=>by rw [e0,List.mem_singleton] at hx;subst hx;exact ha⟩
 refine zl0 (ι:=Nat × Hp × Sl Int) (fun i=>⟨[(3,true,.c (.p 0 0)),(6,true,.c (.v (.slice none 0 0))),(7,true,.c (.v (.bool false))),(8,true,.c (.v i.2.2.val)),(14,true,.c (.v r.val)),(15,true,.c (.v (.int .i64 r.l.length))),(16,true,.c (.v (.int .i64 i.1)))],[(0,.box 57 [.v c.points.val,.v c.segments.val])],i.2.1,1⟩) (fun i=>i.1≤r.l.length∧h.le i.2.1∧WS 3 i.2.1 i.2.2∧(∀ g,i.2.2.a=some ⟨g,0,none⟩→h g=none)∧ptsK c.segments.l a r.l i.1=some i.2.2.l) (fun i=>r.l.length - i.1) (0,h0,s0) ⟨Nat.zero_le _,le0,W0',f0,by rw [e0];rfl⟩ [0] ?_ ?_
 ·refine Evs ?_
  exact Gk
 rintro ⟨k,hk,s⟩ ⟨hkn,hle,hWS,hfr,hpt⟩
 simp only at hkn hle hWS hfr hpt
 have sok:=hWS.ok (by decide)
 have hlen:=zw4 hpt
 have hc1:Enc.ok hk c:=Enc.mono hle hc
 have hr1:=hr.mono hle
 refine Wk ?_
 refine zc9 rfl (fun hd=>?_) (fun hd=>?_)
 ·have hlt:=zjH hd
  have hnx:=zw2 hlt hpt
  have hno:zwT c.segments.l s.l r.l[k]=none→ptsK c.segments.l a r.l r.l.length=none:=fun e=>zwW (k:=k+1) (by rw [hnx,e]) hlt
  repeat' first|refine Wa ?_|refine zhF (fun _=>zYZ _ _ _ _) ?_|(simp only [go_sem,jq,jj,jy,jv,jk,jx,zkv hr1 hlt,hr1.some hlt,hlt,jW];try rfl)|refine Wb ?_|fail
  rw [zjz (by omega)]
  obtain ⟨x,hxe⟩:∃ x,r.l[k]=x:=⟨_,rfl⟩
  rw [hxe] at hnx hno ⊢
  refine zc9 rfl (fun hx=>?_) (fun hx=>?_)
  ·have hin:¬ (0≤x∧x < c.segments.l.length):=by
    rw [Bool.not_eq_true',Bool.and_eq_false_iff,decide_eq_false_iff_not,decide_eq_false_iff_not] at hx;omega
   refine Wk ?_
   rw [hno (by rw [zwT,if_neg hin])]
   exact ⟨⟨none,0,[]⟩,rfl,rfl,zmo⟩
  have hin:0≤x∧x < c.segments.l.length:=by
   rw [Bool.not_eq_false',jJ,decide_eq_true_eq,decide_eq_true_eq] at hx;omega
  obtain ⟨hx0,hx1⟩:=hin
  have hsi:x.toNat < c.segments.l.length:=by omega
  have hk1:k < s.l.length:=by omega
  have hk1i:(k:Int) < s.l.length:=by omega
  have hkk:k < k+1:=Nat.lt_succ_self k
  have hkki:(k:Int) < ((k+1:Nat):Int):=by omega
  have hw1:IntKind.i64.wrap (((k+1:Nat):Int) - 1)=(k:Int):=by rw [zjz (by omega)];omega
  obtain ⟨y,hye⟩:∃ y,zwS c.segments.l[x.toNat] s.l[k]=y:=⟨_,rfl⟩
  have hst:zwT c.segments.l s.l x=if y < 0∨y ∈ s.l then none else some (s.l ++ [y]):=by
   rw [zwT,if_pos ⟨hx0,hx1⟩,zw7 hlen,gget hsi,List.getD_eq_getElem?_getD,List.getElem?_eq_getElem hk1,Option.getD_some,hye]
  have hy64:I64 y:=by
   rw [← hye];unfold zwS
   have o1:=hc1.2.el hsi
   split
   ·exact o1.2.1
   ·split
    ·exact o1.1
    ·unfold I64;omega
  refine Wk ?_
  refine znv rfl ?_
  refine U_t [0,2,5,6,1,7,3,8,4,9,10] rfl ?_
  simp only [go_sem,jq,jj,jy,jv,jk,jx,zkU hc1.2 hsi,hc1.2.some hsi,zlS hc1.2 hsi,hsi,hx0,hx1,hlen,hw1,zkv sok hk1,sok.some hk1,hk1,hk1i,hkk,hkki,jW,jY,implies_true,true_and,and_true,and_self]
  refine U_1 11 0 [] rfl rfl ?_
  simp only [go_sem,jq,jj,jy,jv,jk,jx,zkU hc1.2 hsi,hc1.2.some hsi,zlS hc1.2 hsi,hsi,hx0,hx1,hlen,hw1,zkv sok hk1,sok.some hk1,hk1,hk1i,hkk,hkki,jW,jY,implies_true,true_and,and_true,and_self]
  refine zhF (fun _=>zZM _ _ _) ?_
  simp only [go_sem,jq,jj,jy,jv,jk,jx,zkU hc1.2 hsi,hc1.2.some hsi,zlS hc1.2 hsi,hsi,hx0,hx1,hlen,hw1,zkv sok hk1,sok.some hk1,hk1,hk1i,hkk,hkki,jW,jY,implies_true,true_and,and_true,and_self]
  refine U_t [12] rfl ?_
  simp only [go_sem,jq,jj,jy,jv,jk,jx,zkU hc1.2 hsi,hc1.2.some hsi,zlS hc1.2 hsi,hsi,hx0,hx1,hlen,hw1,zkv sok hk1,sok.some hk1,hk1,hk1i,hkk,hkki,jW,jY,implies_true,true_and,and_true,and_self]
  refine U_d ?_
  refine Wk ?_
  rw [hye]
  repeat' first|refine Wa ?_|refine zhF (fun _=>zZO s y _ sok) ?_|(simp only [go_sem,jq,jj,jy,jv,jk,jx];try rfl)|refine Wb ?_|fail
  refine zc9 rfl (fun hz=>?_) (fun hz=>?_)
  ·refine Wk ?_
   rw [hno (by rw [hst,if_pos];exact (Bool.or_eq_true_iff.1 hz).imp of_decide_eq_true of_decide_eq_true)]
   exact ⟨⟨none,0,[]⟩,rfl,rfl,zmo⟩
  have hz:¬ (y < 0∨y ∈ s.l):=by
   exact not_or.2 ⟨of_decide_eq_false (Bool.or_eq_false_iff.1 hz).1,of_decide_eq_false (Bool.or_eq_false_iff.1 hz).2⟩
  rw [if_neg hz] at hst
  refine zc5 ?_
  refine Evs ?_
  first|refine zmR [0,0,0,3,0] rfl ?_|refine zmQ [0,0,0,3,0] rfl ?_|(refine zc3 ?_;first|refine zmR [0,0,0,3,0] rfl ?_|refine zmQ [0,0,0,3,0] rfl ?_)
  refine Evs ?_
  refine znE (s:=s) rfl hWS.1 (fun g hg=>.inl (hfr g hg)) ?_
  refine Evs ?_
  refine ⟨rfl,by simp only [maxLen];omega,by omega,fun ad cap h2 P=>?_⟩
  have P':Pub (znC hk s) 3 (Enc.size Int) (s.l ++ [y]).length ((s.l ++ [y]).flatMap Enc.enc) ad cap h2:=by
   rw [List.length_append,List.flatMap_append];exact P
  obtain ⟨W2,hd2,fr2,kp2⟩:=hWS.push (x:=y) hy64 P'
  rw [show Value.slice ad (s.l.length+1) cap=(Sl.mk ad cap (s.l ++ [y])).val from by simp only [Sl.val,List.length_append,List.length_singleton]]
  have hle2:h.le h2:=fun b o hb=>kp2 b o (hle b o hb) fun e=>by rw [hfr b e] at hb;cases hb
  refine Wk ?_
  refine ⟨(k+1,h2,⟨ad,cap,s.l ++ [y]⟩),[0],⟨hlt,hle2,W2,fun g hg=>?_,by rw [hnx,hst]⟩,by simp only;omega,?_⟩
  ·rcases fr2 g hg with e|e
   ·exact zmx hle e
   ·exact hfr g e
  refine Evs ?_
  refine ⟨zjB (zjA hlt (by omega)),hle2,?_⟩
  exact Gk
 ·have hge:=zjI hd
  obtain rfl:k=r.l.length:=by omega
  refine Wk ?_
  rw [hpt]
  exact ⟨s,rfl,rfl,sok⟩
theorem zxc {c:PChart} {a:Int} {r:List Int} (h:¬ (0≤a∧a < c.points.length)):zwU c a r=none:=by rw [zwU,if_neg h]
theorem zxd {c:PChart} {a:Int} {r:List Int} (h:0≤a∧a < c.points.length):zwU c a r=ptsK c.segments a r r.length:=by rw [zwU,if_pos h]
theorem zxe (c:DChart) (a:Int) (r:Sl Int) (h:Hp) (hc:Enc.ok h c) (hr:r.Ok h) (hC:zva (Con.con c)=true) (hz:r.l.length≤1048576):Ct jV 241 [c.v,.int .i64 a,r.val] h fun v h'=>∃ s:Sl Int,v=.tuple #[s.val,.bool (zwU (Con.con c) a r.l).isSome]∧s.l=(zwU (Con.con c) a r.l).getD []∧s.Ok h':=by
 have hl:=hr.max
 obtain ⟨h8,hsp⟩:=zwX hC
 have hgm:=hc.2.max
 have hsl:(Con.con c).segments=c.segments.l:=zvJ c
 have hpl:(Con.con c).points=c.points.l:=zwZ c
 refine zdn (fun A W=>by simp) Tryz.func241 rfl rfl (by simp) fun W0=>?_
 repeat' first|refine Wa ?_|refine zhF (fun _=>zuo _ _ _) ?_|(simp only [go_sem,jq,jj,jy,jv,jk,jx];try rfl)|refine Wb ?_|fail
 refine zc9 rfl (fun hx=>?_) (fun hx=>?_)
 ·have hin:¬ (0≤a∧a < (Con.con c).points.length):=by
   rw [hpl];rw [Bool.not_eq_true',Bool.and_eq_false_iff,decide_eq_false_iff_not,decide_eq_false_iff_not] at hx;omega
  refine Wk ?_
  rw [zxc hin]
  exact ⟨⟨none,0,[]⟩,rfl,rfl,zmo⟩
 have hin:0≤a∧a < (Con.con c).points.length:=by
  rw [hpl];rw [Bool.not_eq_false',jJ,decide_eq_true_eq,decide_eq_true_eq] at hx;omega
 obtain ⟨ha0,ha1⟩:=hin
 have ha8:a < ((8:Nat):Int):=by omega
 have ha7:a.toNat≤7:=by omega
 rw [zxd ⟨ha0,ha1⟩,hsl]
 repeat' first|refine Wa ?_|(simp only [go_sem,jq,jj,jy,jv,jk,jx,ha0,ha8,ha7,Nat.zero_add,Nat.mul_one,implies_true,true_and];try rfl)|refine Wb ?_|fail
 refine zl0 (ι:=Nat × List Int) (fun i=>⟨[(1,true,.c (.v (.int .i64 (i.2.getLast?.getD 0)))),(3,true,.c (.p 0 0)),(6,true,.c (.v (.slice none 0 0))),(7,true,.c (.v (.bool false))),(8,true,.c (.p 1 0)),(9,true,.c (.s 2)),(22,true,.c (.v r.val)),(23,true,.c (.v (.int .i64 r.l.length))),(24,true,.c (.v (.int .i64 i.1)))],[(0,.box 57 [.v c.points.val,.v c.segments.val]),(1,.box 323 (metC i.2)),(2,.row 3 1 i.2.length (i.2.flatMap Enc.enc))],h,3⟩) (fun i=>i.1≤r.l.length∧ptsK c.segments.l a r.l i.1=some i.2) (fun i=>r.l.length - i.1) (0,[a]) ⟨Nat.zero_le _,rfl⟩ [0,1,2] ?_ ?_
 ·refine Evs ?_
  refine ⟨⟨rfl,rfl⟩,congrArg some (congrArg _ (zxa (l:=[]) ⟨ha0,by omega⟩)),?_⟩
  exact Gk
 rintro ⟨k,l⟩ ⟨hkn,hpt⟩
 simp only at hkn hpt
 have hlen:=zw4 hpt
 have hpi:=zw6 hC (a:=a) ⟨ha0,ha1⟩ (r:=r.l) (k:=k) (pts:=l) (by rw [hsl];exact hpt)
 refine Wk ?_
 refine zc9 rfl (fun hd=>?_) (fun hd=>?_)
 ·have hlt:=zjH hd
  have hnx:=zw2 hlt hpt
  have hno:zwT c.segments.l l r.l[k]=none→ptsK c.segments.l a r.l r.l.length=none:=fun e=>zwW (k:=k+1) (by rw [hnx,e]) hlt
  repeat' first|refine Wa ?_|refine zhF (fun _=>zuo _ _ _) ?_|(simp only [go_sem,jq,jj,jy,jv,jk,jx,zkv hr hlt,hr.some hlt,hlt,jW];try rfl)|refine Wb ?_|fail
  obtain ⟨x,hxe⟩:∃ x,r.l[k]=x:=⟨_,rfl⟩
  rw [hxe] at hnx hno ⊢
  refine zc9 rfl (fun hx=>?_) (fun hx=>?_)
  ·have hin:¬ (0≤x∧x < c.segments.l.length):=by
    rw [Bool.not_eq_true',Bool.and_eq_false_iff,decide_eq_false_iff_not,decide_eq_false_iff_not] at hx;omega
   refine Wk ?_
   rw [hno (by rw [zwT,if_neg hin])]
   exact ⟨⟨none,0,[]⟩,rfl,rfl,zmo⟩
  have hin:0≤x∧x < c.segments.l.length:=by
   rw [Bool.not_eq_false',jJ,decide_eq_true_eq,decide_eq_true_eq] at hx;omega
  obtain ⟨hx0,hx1⟩:=hin
  have hsi:x.toNat < c.segments.l.length:=by omega
  obtain ⟨y,hye⟩:∃ y,zwS c.segments.l[x.toNat] (l.getLast?.getD 0)=y:=⟨_,rfl⟩
  have hst:zwT c.segments.l l x=if y < 0∨y ∈ l then none else some (l ++ [y]):=by
   rw [zwT,if_pos ⟨hx0,hx1⟩,gget hsi,hye]
  have hy8:y < ((8:Nat):Int):=by
   have:=(zwY hC (i:=x.toNat) (by rw [hsl];exact hsi) (l.getLast?.getD 0)).1
   rw [hsl,gget hsi,hye] at this
   omega
  repeat' first|refine Wa ?_|refine zhF (fun _=>zw0 c.segments.l[x.toNat] (l.getLast?.getD 0) _) ?_|(simp only [go_sem,jq,jj,jy,jv,jk,jx,zkU hc.2 hsi,hc.2.some hsi,zlS hc.2 hsi,hsi,hx0,hx1,jW,jY,implies_true,true_and,and_true,and_self];try rfl)|refine Wb ?_|fail
  rw [hye]
  by_cases hy:y < 0
  ·repeat' first|refine Wa ?_|(simp only [go_sem,jq,jj,jy,jv,jk,jx,eq_true hy,reduceCtorEq,decide_true,decide_false,Bool.not_true,Bool.not_false,Bool.true_or,Bool.false_or,Bool.false_eq_true,false_implies,implies_true,true_and];try rfl)|refine Wb ?_|fail
   refine zc9 rfl (fun hz=>?_) (fun hz=>?_)
   case refine_2=>cases hz
   refine Wk ?_
   rw [hno (by rw [hst,if_pos (.inl hy)])]
   exact ⟨⟨none,0,[]⟩,rfl,rfl,zmo⟩
  have hy0:0≤y:=by omega
  have hy7:y.toNat≤7:=by omega
  have hy9:y.toNat < 8:=by omega
  have hgt:=zxb (l:=l) (x:=y) ⟨hy0,by omega⟩
  have hst2:=zxa (l:=l) (x:=y) ⟨hy0,by omega⟩
  repeat' first|refine Wa ?_|(simp only [go_sem,jq,jj,jy,jv,jk,jx,eq_false hy,reduceCtorEq,hy0,hy8,hy7,hy9,hgt,zw9,Nat.zero_add,Nat.mul_one,decide_true,decide_false,Bool.not_true,Bool.not_false,Bool.true_or,Bool.false_or,Bool.false_eq_true,false_implies,implies_true,true_and];try rfl)|refine Wb ?_|fail
  refine zc9 rfl (fun hz=>?_) (fun hz=>?_)
  ·have hz:y ∈ l:=of_decide_eq_true hz
   refine Wk ?_
   rw [hno (by rw [hst,if_pos (.inr hz)])]
   exact ⟨⟨none,0,[]⟩,rfl,rfl,zmo⟩
  have hz:¬ (y < 0∨y ∈ l):=not_or.2 ⟨hy,of_decide_eq_false hz⟩
  rw [if_neg hz] at hst
  repeat' first|refine Wa ?_|(simp only [go_sem,jq,jj,jy,jv,jk,jx,hy0,hy8,hy7,hy9,hst2,zw9,Nat.zero_add,Nat.mul_one,implies_true,true_and];try rfl)|refine Wb ?_|fail
  refine ⟨by simp only [maxLen];omega,by omega,?_⟩
  refine Wk ?_
  refine ⟨(k+1,l ++ [y]),[0,1,4],⟨hlt,by rw [hnx,hst]⟩,by simp only;omega,?_⟩
  refine Evs ?_
  simp only [List.flatMap_append,List.length_append,List.getLast?_concat,Option.getD_some]
  exact Gi (zjA hlt (by omega))
 ·have hge:=zjI hd
  obtain rfl:k=r.l.length:=by omega
  refine zc6 ?_
  refine Evs ?_
  refine znD 2 l rfl rfl rfl rfl fun s h' e1 R f1 l1 k1=>?_
  refine Wk ?_
  rw [hpt]
  refine ⟨s,rfl,e1,R.ok (by decide) fun x hx=>?_⟩
  have:=hpi x (by rw [← e1];exact hx)
  show I64 _;unfold I64;omega
def zxf (c:PChart) (a:Int) (r:List Int):Bool:=(zwV c a r).isSome
theorem zxg {c:PChart} {a:Int} {r:List Int} (h:zva c=false):zwV c a r=none:=by rw [zwV,if_neg (by rw [h];exact Bool.false_ne_true)]
theorem zxh {c:PChart} {a:Int} {r:List Int} (h:zva c=true):zwV c a r=zwU c a r:=by rw [zwV,if_pos h]
theorem zZQ {α:Type} {o:Option α} (h:o=none):o.isSome=false:=by rw [h];rfl
theorem zxi {c:PChart} {a:Int} {r:List Int} (h:zxf c a r=true):zva c=true∧(0≤a∧a < c.points.length)∧∃ l,zwV c a r=some l∧ptsK c.segments a r r.length=some l∧l.length=r.length+1∧∀ x ∈ l,0≤x∧x < c.points.length:=by
 cases hC:zva c with
 | false=>rw [zxf,zxg hC] at h;cases h
 | true =>
  obtain ⟨l,hl⟩:=Option.isSome_iff_exists.1 h
  have h2:=hl
  rw [zxh hC,zwU] at h2
  split at h2
  ·rename_i ha
   exact ⟨rfl,ha,l,hl,h2,zw4 h2,zw6 hC ha h2⟩
  ·cases h2
theorem zxj {g:List DSegment} {a:Int} {r:List Int}:∀ {k:Nat} {l:List Int},ptsK g a r k=some l→k≤r.length→∀ i (hi:i < r.length),i < k→0≤r[i]∧r[i] < g.length
 | 0,l,h,hk,i,hi,hik=>absurd hik (Nat.not_lt_zero _)
 | k+1,l,h,hk,i,hi,hik=>by
  obtain ⟨p,h1,h2⟩:=zw3 h
  have h0:=(zw1 h2).1
  rcases Nat.lt_or_ge i k with h3|h3
  ·exact zxj h1 (by omega) i hi h3
  ·obtain rfl:i=k:=by omega
   rwa [List.getD_eq_getElem?_getD,List.getElem?_eq_getElem hi] at h0
theorem zZR (c:DChart) (a:Int) (r:Sl Int) (h:Hp) (hc:Enc.ok h c) (ha:I64 a) (hr:r.Ok h) (hz:r.l.length≤1048576):Ct jV 172 [c.v,.int .i64 a,r.val] h fun v h'=>v=.bool (zxf (Con.con c) a r.l)∧h'=h:=by
 refine Ct.forget ?_
 have hgm:=hc.1.max
 have hpl:(Con.con c).points=c.points.l:=zwZ c
 refine zdn (fun A W=>by simp) Tryz.func172 rfl rfl (by simp) fun W0=>?_
 repeat' first|refine Wa ?_|refine zhF (fun _=>zY8 c _ hc) ?_|refine zhF (fun _=>zYZ _ _ _ _) ?_|(simp only [go_sem,jq,jj,jy,jv,jk,jx];try rfl)|refine Wb ?_|fail
 rw [zjz (by omega)]
 refine zc9 rfl (fun hx=>?_) (fun hx=>?_)
 ·refine Wk ?_
  rw [zxf,zZQ]
  cases hC:zva (Con.con c) with
  | false=>exact zxg hC
  | true =>
   rw [zxh hC,zxc]
   rw [hpl]
   rw [hC,Bool.not_true,Bool.false_or,Bool.not_eq_true',Bool.and_eq_false_iff,decide_eq_false_iff_not,decide_eq_false_iff_not] at hx
   omega
 rw [jp,Bool.not_eq_false',Bool.not_eq_false',jJ,decide_eq_true_eq,decide_eq_true_eq] at hx
 obtain ⟨hC,hx0,hx1⟩:=hx
 refine Wk ?_
 refine zkj (zZP c a r _ hc hr ha hz) rfl ?_
 rintro v h1 le1 ⟨s,rfl,e1,ok1⟩
 refine Wk ?_
 rw [zxf,zxh hC,zxd (by rw [hpl];omega),zvJ]
theorem zxk (c:DChart) (a:Int) (r:Sl Int) (h:Hp) (hc:Enc.ok h c) (ha:I64 a) (hr:r.Ok h) (hz:r.l.length≤1048576):Ct jV 243 [c.v,.int .i64 a,r.val] h fun v h'=>v=.bool (zxf (Con.con c) a r.l)∧h'=h:=by
 refine Ct.forget ?_
 refine zdn (fun A W=>by simp) Tryz.func243 rfl rfl (by simp) fun W0=>?_
 repeat' first|refine Wa ?_|refine zhF (fun _=>zvh c _ hc) ?_|(simp only [go_sem,jq,jj,jy,jv,jk,jx];try rfl)|refine Wb ?_|fail
 refine zc9 rfl (fun hx=>?_) (fun hx=>?_)
 ·rw [Bool.not_eq_true'] at hx
  refine Wk ?_
  rw [zxf,zxg hx];rfl
 rw [Bool.not_eq_false'] at hx
 refine Wk ?_
 refine zkj (zxe c a r _ hc hr hx hz) rfl ?_
 rintro v h1 le1 ⟨s,rfl,e1,ok1⟩
 refine Wk ?_
 rw [zxf,zxh hx]
theorem zZS (c:DChart) (a:Int) (r:Sl Int) (h:Hp) (hc:Enc.ok h c) (ha:I64 a) (hr:r.Ok h) (hz:r.l.length≤1048576):Ct jV 166 [c.v,.int .i64 a,r.val] h fun v h'=>∃ s:Sl Int,v=s.val∧s.l=(zwV (Con.con c) a r.l).getD []∧s.Ok h':=by
 refine zdn (fun A W=>by simp) Tryz.func166 rfl rfl (by simp) fun W0=>?_
 repeat' first|refine Wa ?_|refine zhF (fun _=>zZR c a r _ hc ha hr hz) ?_|(simp only [go_sem,jq,jj,jy,jv,jk,jx];try rfl)|refine Wb ?_|fail
 refine zc9 rfl (fun hx=>?_) (fun hx=>?_)
 ·rw [Bool.not_eq_true',zxf,Option.isSome_eq_false_iff,Option.isNone_iff_eq_none] at hx
  refine Wk ?_
  rw [hx]
  exact ⟨⟨none,0,[]⟩,rfl,rfl,zmo⟩
 rw [Bool.not_eq_false'] at hx
 obtain ⟨hC,hin,l,hl,hk,_⟩:=zxi hx
 refine Wk ?_
 refine zkj (zZP c a r _ hc hr ha hz) rfl ?_
 rintro v h1 le1 ⟨s,rfl,e1,ok1⟩
 refine Wk ?_
 exact ⟨s,rfl,by rw [e1,← zvJ,hk,hl],ok1⟩
theorem zxl (c:DChart) (a:Int) (r:Sl Int) (h:Hp) (hc:Enc.ok h c) (ha:I64 a) (hr:r.Ok h) (hz:r.l.length≤1048576):Ct jV 176 [c.v,.int .i64 a,r.val] h fun v h'=>∃ s:Sl Int,v=s.val∧s.l=(zwV (Con.con c) a r.l).getD []∧s.Ok h':=by
 refine zdn (fun A W=>by simp) Tryz.func176 rfl rfl (by simp) fun W0=>?_
 repeat' first|refine Wa ?_|refine zhF (fun _=>zvh c _ hc) ?_|(simp only [go_sem,jq,jj,jy,jv,jk,jx];try rfl)|refine Wb ?_|fail
 refine zc9 rfl (fun hx=>?_) (fun hx=>?_)
 ·rw [Bool.not_eq_true'] at hx
  refine Wk ?_
  rw [zxg hx]
  exact ⟨⟨none,0,[]⟩,rfl,rfl,zmo⟩
 rw [Bool.not_eq_false'] at hx
 refine Wk ?_
 refine zkj (zxe c a r _ hc hr hx hz) rfl ?_
 rintro v h1 le1 ⟨s,rfl,e1,ok1⟩
 refine Wk ?_
 exact ⟨s,rfl,by rw [e1,zxh hx],ok1⟩
def zxm (g:List DSegment) (acc s:Int):Int:=IntKind.i64.wrap (acc+(g.getD s.toNat dG).minutes)
def rmOk (n:Nat) (r:List Int) (i:Nat):Bool:=decide (0≤r.getD i 0∧r.getD i 0 < n)
def zxn (c:PChart) (r:List Int):Int:=if zva c=true∧∀ i,i < r.length→rmOk c.segments.length r i=true then r.foldl (zxm c.segments) 0 else -1
theorem zxo {c:PChart} {r:List Int} (h:¬ (zva c=true∧∀ i,i < r.length→rmOk c.segments.length r i=true)):zxn c r=-1:=by rw [zxn,if_neg h]
theorem iget {l:List Int} {i:Nat} (hi:i < l.length):l.getD i 0=l[i]:=by simp [List.getD_eq_getElem?_getD,hi]
theorem zxp {c:PChart} {r:List Int} (h:¬ zxn c r < 0):zva c=true∧∀ i,i < r.length→rmOk c.segments.length r i=true:=by
 rw [zxn] at h
 split at h
 ·assumption
 ·omega
theorem zZT (c:DChart) (r:Sl Int) (h:Hp) (hc:Enc.ok h c) (hr:r.Ok h):Ct jV 229 [c.v,r.val] h fun v h'=>v=.int .i64 (zxn (Con.con c) r.l)∧h'=h:=by
 have hl:=hr.max
 have hgm:=hc.2.max
 have hsl:(Con.con c).segments=c.segments.l:=zvJ c
 refine zdn (fun A W=>by simp) Tryz.func229 rfl rfl (by simp) fun W0=>?_
 repeat' first|refine Wa ?_|refine zhF (fun _=>zY8 c _ hc) ?_|(simp only [go_sem,jq,jj,jy,jv,jk,jx];try rfl)|refine Wb ?_|fail
 refine zc9 rfl (fun hx=>?_) (fun hx=>?_)
 ·rw [Bool.not_eq_true'] at hx
  refine Wk ?_
  rw [zxo (fun H=>by rw [hx] at H;cases H.1)]
 rw [Bool.not_eq_false'] at hx
 have hC:=hx
 refine Wk ?_
 refine zde (ι:=Nat) (fun k=>⟨[(2,true,.c (.p 0 0)),(4,true,.c (.v (.int .i64 0))),(5,true,.c (.v (.int .i64 ((r.l.take k).foldl (zxm c.segments.l) 0)))),(11,true,.c (.v r.val)),(12,true,.c (.v (.int .i64 r.l.length))),(13,true,.c (.v (.int .i64 k)))],[(0,.box 57 [.v c.points.val,.v c.segments.val])],h,1⟩) (fun k=>k≤r.l.length∧∀ i,i < k→rmOk c.segments.l.length r.l i=true) (fun k=>r.l.length - k) 0 ⟨Nat.zero_le _,zvf⟩ ?_ ?_
 ·refine Evs ?_
  exact Gk
 intro k hk
 refine Wk ?_
 refine zc9 rfl (fun hd=>?_) (fun hd=>?_)
 ·have hlt:=zjH hd
  repeat' first|refine Wa ?_|refine zhF (fun _=>zYZ _ _ _ _) ?_|(simp only [go_sem,jq,jj,jy,jv,jk,jx,zkv hr hlt,hr.some hlt,hlt,jW];try rfl)|refine Wb ?_|fail
  rw [zjz (by omega)]
  refine zc9 rfl (fun hx=>?_) (fun hx=>?_)
  ·refine Wk ?_
   rw [zxo (fun H=>by
    have:=H.2 k hlt
    rw [rmOk,iget hlt,hsl,decide_eq_true_eq] at this
    rw [Bool.not_eq_true',Bool.and_eq_false_iff,decide_eq_false_iff_not,decide_eq_false_iff_not] at hx;omega)]
  have hin:0≤r.l[k]∧r.l[k] < c.segments.l.length:=by
   rw [Bool.not_eq_false',jJ,decide_eq_true_eq,decide_eq_true_eq] at hx;omega
  obtain ⟨hx0,hx1⟩:=hin
  have hsi:r.l[k].toNat < c.segments.l.length:=by omega
  repeat' first|refine Wa ?_|(simp only [go_sem,jq,jj,jy,jv,jk,jx,zlS hc.2 hsi,hc.2.some hsi,hsi,hx0,hx1,implies_true,true_and,and_true,and_self];try rfl)|refine Wb ?_|fail
  refine ⟨k+1,⟨hlt,zvd hk.2 (by rw [rmOk,iget hlt];exact decide_eq_true ⟨hx0,hx1⟩)⟩,by omega,?_⟩
  rw [zv6 hlt]
  refine ⟨?_,zjB (zjA hlt (by omega))⟩
  simp only [zxm,gget hsi]
 ·have hge:=zjI hd
  refine Wk ?_
  rw [zxn,if_pos ⟨hC,fun i hi=>by rw [hsl];exact hk.2 i (by omega)⟩,hsl,List.take_of_length_le hge]
theorem zxq (c:DChart) (r:Sl Int) (h:Hp) (hc:Enc.ok h c) (hr:r.Ok h):Ct jV 235 [c.v,r.val] h fun v h'=>v=.int .i64 (zxn (Con.con c) r.l)∧h'=h:=by
 have hl:=hr.max
 have hgm:=hc.2.max
 have hsl:(Con.con c).segments=c.segments.l:=zvJ c
 refine zdn (fun A W=>by simp) Tryz.func235 rfl rfl (by simp) fun W0=>?_
 repeat' first|refine Wa ?_|refine zhF (fun _=>zvh c _ hc) ?_|(simp only [go_sem,jq,jj,jy,jv,jk,jx];try rfl)|refine Wb ?_|fail
 refine zc9 rfl (fun hx=>?_) (fun hx=>?_)
 ·rw [Bool.not_eq_true'] at hx
  refine Wk ?_
  rw [zxo (fun H=>by rw [hx] at H;cases H.1)]
 rw [Bool.not_eq_false'] at hx
 have hC:=hx
 refine Wk ?_
 refine zde (ι:=Nat) (fun k=>⟨[(2,true,.c (.p 0 0)),(4,true,.c (.v (.int .i64 0))),(5,true,.c (.v (.int .i64 ((r.l.take k).foldl (zxm c.segments.l) 0)))),(11,true,.c (.v r.val)),(12,true,.c (.v (.int .i64 r.l.length))),(13,true,.c (.v (.int .i64 k)))],[(0,.box 57 [.v c.points.val,.v c.segments.val])],h,1⟩) (fun k=>k≤r.l.length∧∀ i,i < k→rmOk c.segments.l.length r.l i=true) (fun k=>r.l.length - k) 0 ⟨Nat.zero_le _,zvf⟩ ?_ ?_
 ·refine Evs ?_
  exact Gk
 intro k hk
 refine Wk ?_
 refine zc9 rfl (fun hd=>?_) (fun hd=>?_)
 ·have hlt:=zjH hd
  repeat' first|refine Wa ?_|refine zhF (fun _=>zuo _ _ _) ?_|(simp only [go_sem,jq,jj,jy,jv,jk,jx,zkv hr hlt,hr.some hlt,hlt,jW];try rfl)|refine Wb ?_|fail
  skip
  refine zc9 rfl (fun hx=>?_) (fun hx=>?_)
  ·refine Wk ?_
   rw [zxo (fun H=>by
    have:=H.2 k hlt
    rw [rmOk,iget hlt,hsl,decide_eq_true_eq] at this
    rw [Bool.not_eq_true',Bool.and_eq_false_iff,decide_eq_false_iff_not,decide_eq_false_iff_not] at hx;omega)]
  have hin:0≤r.l[k]∧r.l[k] < c.segments.l.length:=by
   rw [Bool.not_eq_false',jJ,decide_eq_true_eq,decide_eq_true_eq] at hx;omega
  obtain ⟨hx0,hx1⟩:=hin
  have hsi:r.l[k].toNat < c.segments.l.length:=by omega
  repeat' first|refine Wa ?_|(simp only [go_sem,jq,jj,jy,jv,jk,jx,zlS hc.2 hsi,hc.2.some hsi,hsi,hx0,hx1,implies_true,true_and,and_true,and_self];try rfl)|refine Wb ?_|fail
  refine ⟨k+1,⟨hlt,zvd hk.2 (by rw [rmOk,iget hlt];exact decide_eq_true ⟨hx0,hx1⟩)⟩,by omega,?_⟩
  rw [zv6 hlt]
  refine ⟨?_,zjB (zjA hlt (by omega))⟩
  simp only [zxm,gget hsi]
 ·have hge:=zjI hd
  refine Wk ?_
  rw [zxn,if_pos ⟨hC,fun i hi=>by rw [hsl];exact hk.2 i (by omega)⟩,hsl,List.take_of_length_le hge]
def dQ:DPassage:=⟨0,0,false,0,0⟩
theorem qget {l:List DPassage} {i:Nat} (hi:i < l.length):l.getD i dQ=l[i]:=by simp [List.getD_eq_getElem?_getD,hi]
def chIn (n:Nat) (l:List DPassage) (i:Nat):Bool:=decide ((l.getD i dQ).ship=(l.getD 0 dQ).ship) && decide (0≤(l.getD i dQ).seg∧(l.getD i dQ).seg < (n:Int))
def chTo (c:PChart) (l:List DPassage) (i:Nat):Bool:=decide (i=0) || (decide ((zvF c (l.getD i dQ)).1=(zvF c (l.getD (i - 1) dQ)).2) && decide ((l.getD (i - 1) dQ).fin≤(l.getD i dQ).start))
def chOk (c:PChart) (l:List DPassage) (i:Nat):Bool:=chIn c.segments.length l i && chTo c l i
def zxr (c:PChart) (l:List DPassage):Bool:=zva c && decide (∀ i,i < l.length→chOk c l i=true)
theorem zxs (c:DChart):(Con.con c).segments.length=c.segments.l.length:=by rw [zvJ]
theorem zxt {n:Nat} {l:List DPassage} {i:Nat} (hi:i < l.length) (h:chIn n l i=true):0≤l[i].seg∧l[i].seg < (n:Int):=by
 rw [chIn,qget hi] at h
 exact of_decide_eq_true (Bool.and_eq_true_iff.1 h).2
theorem zxu {c:DChart} {l:List DPassage} {i:Nat} (h:chOk (Con.con c) l i=true):chIn c.segments.l.length l i=true:=by
 rw [chOk,zxs] at h
 exact (Bool.and_eq_true_iff.1 h).1
theorem zxv {c:DChart} {l:List DPassage} {i:Nat} (h:chIn c.segments.l.length l i=false):chOk (Con.con c) l i=false:=by rw [chOk,zxs,h,Bool.false_and]
theorem zxw {c:DChart} {l:List DPassage} {i:Nat} (h:chIn c.segments.l.length l i=true) (h2:chTo (Con.con c) l i=true):chOk (Con.con c) l i=true:=by rw [chOk,zxs,h,h2];rfl
theorem zxx {c:DChart} {l:List DPassage} {i:Nat} (h2:chTo (Con.con c) l i=false):chOk (Con.con c) l i=false:=by rw [chOk,h2,Bool.and_false]
theorem zZU (c:DChart) (a:Sl DPassage) (h:Hp) (hc:Enc.ok h c) (ha:a.Ok h):Ct jV 305 [c.v,a.val] h fun v h'=>v=.bool (zxr (Con.con c) a.l)∧h'=h:=by
 have hg:=hc.2
 have hl:=hg.max
 have hl2:=ha.max
 have hw:IntKind.i64.wrap ((c.segments.l.length:Int) - 1)=(c.segments.l.length:Int) - 1:=zjz (by omega)
 rw [zxr]
 refine zdn (fun A W=>by simp) Tryz.func305 rfl rfl (by simp) fun W0=>?_
 repeat' first|refine Wa ?_|refine zhF (fun _=>zY8 c _ hc) ?_|(simp only [go_sem,jq,jj,jy,jv,jk,jx];try rfl)|refine Wb ?_|fail
 refine zc9 rfl (fun hC=>?_) (fun hC=>?_)
 ·rw [Bool.not_eq_true'] at hC
  rw [hC]
  exact Wk0
 rw [Bool.not_eq_false'] at hC
 rw [hC,Bool.true_and]
 refine Wk ?_
 refine zde (ι:=Nat) (fun k=>⟨[(1,true,.c (.v a.val)),(2,true,.c (.p 0 0)),(14,true,.c (.v a.val)),(15,true,.c (.v (.int .i64 a.l.length))),(16,true,.c (.v (.int .i64 k)))],[(0,.box 57 [.v c.points.val,.v c.segments.val])],h,1⟩) (fun k=>k≤a.l.length∧∀ i,i < k→chOk (Con.con c) a.l i=true) (fun k=>a.l.length - k) 0 ⟨Nat.zero_le _,zvf⟩ ?_ ?_
 ·refine Evs ?_
  exact Gk
 intro k hk
 refine Wk ?_
 refine zc9 rfl (fun hd=>?_) (fun hd=>?_)
 ·have hlt:=zjH hd
  have h0:0 < a.l.length:=by omega
  have h0i:(0:Int) < a.l.length:=by omega
  have ha0:=ha.some h0
  have hs1:=(zlO ha h0).1
  simp only [go_sem,Nat.zero_mul] at hs1
  repeat' first|refine Wa ?_|(simp only [go_sem,jq,jj,jy,jv,jk,jx,zky ha hlt,ha.some hlt,hlt,jW];try rfl)|refine Wb ?_|fail
  refine ziV rfl ?_
  refine zi3 [0,1,2,3,4,5,6,7,8,9,10,11,12,13] rfl (by kernel_rfl) ?_
  simp only [go_sem,jq,jj,jy,jv,jk,jx,ha0,hs1,h0i,Int.toNat_zero,Nat.zero_mul,Int.le_refl,implies_true,true_and,and_true]
  refine ziT [14] (by kernel_rfl) (by kernel_rfl) ?_
  simp only [go_sem,jq,jj,jy,jv,jk,jx,ha0,hs1,h0i,Int.toNat_zero,Nat.zero_mul,Int.le_refl,implies_true,true_and,and_true,hw]
  refine zhF (fun _=>zYZ _ _ _ _) ?_
  simp only [go_sem,jq,jj,jy,jv,jk,jx,ha0,hs1,h0i,Int.toNat_zero,Nat.zero_mul,Int.le_refl,implies_true,true_and,and_true]
  refine zi3 [15,16] rfl (by kernel_rfl) ?_
  simp only [go_sem,jq,jj,jy,jv,jk,jx,ha0,hs1,h0i,Int.toNat_zero,Nat.zero_mul,Int.le_refl,implies_true,true_and,and_true]
  refine ziU (by kernel_rfl) ?_
  refine Wk ?_
  refine zc9 rfl (fun hq=>?_) (fun hq=>?_)
  ·have hin:chIn c.segments.l.length a.l k=false:=by
    rw [chIn,qget hlt,qget h0]
    simp only [jQ,Bool.not_eq_true',Bool.and_eq_false_iff,decide_eq_false_iff_not,bne_iff_ne] at hq ⊢
    omega
   refine Wk ?_
   rw [zvc hlt (zxv hin)]
  ·have hin:chIn c.segments.l.length a.l k=true:=by
    rw [chIn,qget hlt,qget h0]
    simp only [jp,Bool.not_eq_false',jJ,decide_eq_true_eq,bne_eq_false_iff_eq] at hq ⊢
    omega
   refine Wk ?_
   refine zc9 rfl (fun hz=>?_) (fun hz=>?_)
   ·have hk0:k=0:=by have:=eq_of_beq hz;omega
    refine Wk ?_
    refine ⟨k+1,⟨hlt,zvd hk.2 (zxw hin (by rw [chTo,decide_eq_true hk0];rfl))⟩,by omega,zjB (zjA hlt (by omega))⟩
   ·have hk0:¬ k=0:=by intro e;rw [e] at hz;cases hz
    have hk1:k - 1 < a.l.length:=by omega
    have hwk:IntKind.i64.wrap ((k:Int) - 1)=((k - 1:Nat):Int):=by rw [zjz (by omega)];omega
    obtain ⟨h3,h4⟩:=zxt hlt hin
    obtain ⟨h5,h6⟩:=zxt hk1 (zxu (hk.2 (k - 1) (by omega)))
    repeat' first|refine Wa ?_|refine zhF (fun _=>zZi c _ _ hc h3 h4) ?_|(simp only [go_sem,jq,jj,jy,jv,jk,jx,hwk];try rfl)|refine Wb ?_|fail
    refine ziV rfl ?_
    refine zi3 [0,1,2,3,4,5] rfl (by kernel_rfl) ?_
    simp only [go_sem,jq,jj,jy,jv,jk,jx,zky ha hk1,ha.some hk1,hk1,jW,hwk]
    refine ziT [6] (by kernel_rfl) (by kernel_rfl) ?_
    simp only [go_sem,jq,jj,jy,jv,jk,jx,zky ha hk1,ha.some hk1,hk1,jW,hwk]
    refine zhF (fun _=>zZi c _ _ hc h5 h6) ?_
    simp only [go_sem,jq,jj,jy,jv,jk,jx,zky ha hk1,ha.some hk1,hk1,jW,hwk]
    refine zi3 [7,8,9,10,11] rfl (by kernel_rfl) ?_
    simp only [go_sem,jq,jj,jy,jv,jk,jx,zky ha hk1,ha.some hk1,hk1,jW,hwk]
    refine ziU (by kernel_rfl) ?_
    refine Wk ?_
    refine zi8 rfl (by kernel_rfl) ?_
    simp only [go_sem,jq,jj,jy,jv,jk,jx,zky ha hk1,ha.some hk1,hk1,jW,hwk,zlO ha hk1]
    refine Wk ?_
    refine zc9 rfl (fun hx=>?_) (fun hx=>?_)
    ·have hto:chTo (Con.con c) a.l k=false:=by
      rw [chTo,qget hlt,qget hk1,decide_eq_false hk0,Bool.false_or]
      simp only [jQ,bne_iff_ne,decide_eq_true_eq] at hx
      rw [Bool.and_eq_false_iff,decide_eq_false_iff_not,decide_eq_false_iff_not]
      omega
     refine Wk ?_
     rw [zvc hlt (zxx hto)]
    ·have hto:chTo (Con.con c) a.l k=true:=by
      rw [chTo,qget hlt,qget hk1,decide_eq_false hk0,Bool.false_or]
      simp only [jp,bne_eq_false_iff_eq,decide_eq_false_iff_not] at hx
      rw [Bool.and_eq_true_iff,decide_eq_true_eq,decide_eq_true_eq]
      omega
     refine Wk ?_
     refine ⟨k+1,⟨hlt,zvd hk.2 (zxw hin hto)⟩,by omega,zjB (zjA hlt (by omega))⟩
 ·have hge:=zjI hd
  refine Wk ?_
  rw [zve hge hk.2]
@[go_sem] theorem zxz (t1 fs d t p af gd tk):ziY (⟨d,.build t1 fs,t,p,af,gd⟩:Oper) tk=⟨d,.build t1 fs,t,p,af,gd⟩ :: tk:=rfl
def pOk (c:PChart) (f:List DShip) (l:List DPassage) (i:Nat):Bool:=zvI c f (l.getD i dQ)
def zxA (c:PChart) (p q:DPassage):DDuty:=⟨p.start,q.fin,(zvF c p).1,(zvF c q).2⟩
def zxB (c:PChart) (f:List DShip) (l:List DPassage):DDuty × Bool :=
 if (decide (0 < l.length) && zxr c l && decide (∀ i,i < l.length→pOk c f l i=true))=true then (zxA c (l.getD 0 dQ) (l.getD (l.length - 1) dQ),true) else (⟨0,0,0,0⟩,false)
theorem zxC {c:PChart} {f:List DShip} {l:List DPassage} (h:(decide (0 < l.length) && zxr c l && decide (∀ i,i < l.length→pOk c f l i=true))=false):zxB c f l=(⟨0,0,0,0⟩,false):=by rw [zxB,if_neg (by rw [h];exact Bool.false_ne_true)]
theorem zxD {c:PChart} {f:List DShip} {l:List DPassage} (h1:0 < l.length) (h2:zxr c l=true) (h3:∀ i,i < l.length→pOk c f l i=true):zxB c f l=(zxA c (l.getD 0 dQ) (l.getD (l.length - 1) dQ),true):=by rw [zxB,if_pos (by rw [decide_eq_true h1,h2,decide_eq_true h3];rfl)]
theorem zxE {c:DChart} {l:List DPassage} (h:zxr (Con.con c) l=true) {i:Nat} (hi:i < l.length):0≤l[i].seg∧l[i].seg < (c.segments.l.length:Int) :=
 zxt hi (zxu (of_decide_eq_true (Bool.and_eq_true_iff.1 h).2 i hi))
theorem zxF (c:DChart) (p q:DPassage) (h:Hp) (hc:Enc.ok h c) (h1:0≤p.seg) (h2:p.seg < c.segments.l.length) (h3:0≤q.seg) (h4:q.seg < c.segments.l.length):Ct jV 261 [c.v,p.v,q.v] h fun v h'=>v=(zxA (Con.con c) p q).v∧h'=h:=by
 refine zdn (fun A W=>by simp) Tryz.func261 rfl rfl (by simp) fun W0=>?_
 repeat' first|refine Wa ?_|refine zhF (fun _=>zvL c p _ hc h1 h2) ?_|refine zhF (fun _=>zvL c q _ hc h3 h4) ?_|(simp only [go_sem,jq,jj,jy,jv,jk,jx];try rfl)|refine Wb ?_|fail
theorem zZV (c:DChart) (f:Sl DShip) (a:Sl DPassage) (h:Hp) (hc:Enc.ok h c) (hf:f.Ok h) (ha:a.Ok h):Ct jV 286 [c.v,f.val,a.val] h fun v h'=>v=.tuple #[(zxB (Con.con c) f.l a.l).1.v,.bool (zxB (Con.con c) f.l a.l).2]∧h'=h:=by
 have hl:=ha.max
 refine zdn (fun A W=>by simp) Tryz.func286 rfl rfl (by simp) fun W0=>?_
 repeat' first|refine Wa ?_|refine zhF (fun _=>zZU c a _ hc ha) ?_|(simp only [go_sem,jq,jj,jy,jv,jk,jx];try rfl)|refine Wb ?_|fail
 refine zc9 rfl (fun hq=>?_) (fun hq=>?_)
 ·rw [zxC (by
   simp only [jQ,Bool.not_eq_true',decide_eq_true_eq,beq_iff_eq] at hq
   rcases hq with hq|hq
   ·rw [decide_eq_false (by omega),Bool.false_and,Bool.false_and]
   ·rw [hq,Bool.and_false,Bool.false_and])]
  exact Wk0
 simp only [jp,Bool.not_eq_false',beq_eq_false_iff_ne,ne_eq,decide_eq_false_iff_not] at hq
 obtain ⟨hq1,hC⟩:=hq
 have h0:0 < a.l.length:=by omega
 refine Wk ?_
 refine zde (ι:=Nat) (fun k=>⟨[(1,true,.c (.v f.val)),(2,true,.c (.v a.val)),(3,true,.c (.p 0 0)),(6,true,.c (.p 1 0)),(25,true,.c (.v a.val)),(26,true,.c (.v (.int .i64 a.l.length))),(27,true,.c (.v (.int .i64 k)))],[(0,.box 57 [.v c.points.val,.v c.segments.val]),(1,.box 303 [.v (.int .i64 0),.v (.int .i64 0),.v (.int .i64 0),.v (.int .i64 0)])],h,2⟩) (fun k=>k≤a.l.length∧∀ i,i < k→pOk (Con.con c) f.l a.l i=true) (fun k=>a.l.length - k) 0 ⟨Nat.zero_le _,zvf⟩ ?_ ?_
 ·refine Evs ?_
  exact Gk
 intro k hk
 refine Wk ?_
 refine zc9 rfl (fun hd=>?_) (fun hd=>?_)
 ·have hlt:=zjH hd
  repeat' first|refine Wa ?_|refine zhF (fun _=>zZl c f _ _ hc hf) ?_|(simp only [go_sem,jq,jj,jy,jv,jk,jx,zky ha hlt,ha.some hlt,hlt,jW];try rfl)|refine Wb ?_|fail
  refine zc9 rfl (fun hx=>?_) (fun hx=>?_)
  ·rw [Bool.not_eq_true'] at hx
   rw [zxC (by rw [zvc hlt (by rw [pOk,qget hlt];exact hx),Bool.and_false])]
   exact Wk0
  ·rw [Bool.not_eq_false'] at hx
   refine Wk ?_
   exact ⟨k+1,⟨hlt,zvd hk.2 (by rw [pOk,qget hlt];exact hx)⟩,by omega,zjB (zjA hlt (by omega))⟩
 ·have hge:=zjI hd
  have hke:k=a.l.length:=by omega
  have hn1:a.l.length - 1 < a.l.length:=by omega
  have hwn:IntKind.i64.wrap ((a.l.length:Int) - 1)=((a.l.length - 1:Nat):Int):=by rw [zjz (by omega)];omega
  obtain ⟨h1,h2⟩:=zxE hC h0
  obtain ⟨h3,h4⟩:=zxE hC hn1
  rw [zxD h0 hC (fun i hi=>hk.2 i (by omega)),qget h0,qget hn1]
  have h0i:(0:Int) < a.l.length:=by omega
  have ha0:=ha.some h0
  have hs0:=zky ha h0
  have hs1:=(zlO ha h0)
  simp only [go_sem,Nat.zero_mul] at hs0 hs1
  repeat' first|refine Wa ?_|(simp only [go_sem,jq,jj,jy,jv,jk,jx,zky ha hn1,ha.some hn1,hn1,jW,hwn];try rfl)|refine Wb ?_|fail
  refine ziV rfl ?_
  refine zi3 [0,1,2,3] rfl (by kernel_rfl) ?_
  simp only [go_sem,jq,jj,jy,jv,jk,jx,ha0,hs0,hs1,h0i,Int.toNat_zero,Nat.zero_mul,Int.le_refl,implies_true,true_and,and_true]
  refine ziT [4] (by kernel_rfl) (by kernel_rfl) ?_
  simp only [go_sem,jq,jj,jy,jv,jk,jx,ha0,hs0,hs1,h0i,Int.toNat_zero,Nat.zero_mul,Int.le_refl,implies_true,true_and,and_true]
  refine zhF (fun _=>zZi c _ _ hc h1 h2) ?_
  simp only [go_sem,jq,jj,jy,jv,jk,jx,ha0,hs0,hs1,h0i,Int.toNat_zero,Nat.zero_mul,Int.le_refl,implies_true,true_and,and_true]
  refine zi3 [5,6,7,8,9] rfl (by kernel_rfl) ?_
  simp only [go_sem,jq,jj,jy,jv,jk,jx,ha0,hs0,hs1,h0i,Int.toNat_zero,Nat.zero_mul,Int.le_refl,implies_true,true_and,and_true]
  refine ziU (by kernel_rfl) ?_
  repeat' first|refine Wa ?_|refine zhF (fun _=>zZi c _ _ hc h3 h4) ?_|(simp only [go_sem,jq,jj,jy,jv,jk,jx];try rfl)|refine Wb ?_|fail
  refine ziV rfl ?_
  refine zi3 [0,1,2,3,4,5,6,7] rfl (by kernel_rfl) ?_
  simp only [go_sem,jq,jj,jy,jv,jk,jx,ha0,hs0,hs1,h0i,Int.toNat_zero,Nat.zero_mul,Int.le_refl,implies_true,true_and,and_true]
  refine ziT [8] (by kernel_rfl) (by kernel_rfl) ?_
  simp only [go_sem,jq,jj,jy,jv,jk,jx,ha0,hs0,hs1,h0i,Int.toNat_zero,Nat.zero_mul,Int.le_refl,implies_true,true_and,and_true]
  refine ziT [9] (by kernel_rfl) (by kernel_rfl) ?_
  simp only [go_sem,jq,jj,jy,jv,jk,jx,ha0,hs0,hs1,h0i,Int.toNat_zero,Nat.zero_mul,Int.le_refl,implies_true,true_and,and_true]
  refine zi3 [10] rfl (by kernel_rfl) ?_
  simp only [go_sem,jq,jj,jy,jv,jk,jx,ha0,hs0,hs1,h0i,Int.toNat_zero,Nat.zero_mul,Int.le_refl,implies_true,true_and,and_true]
  refine ziU (by kernel_rfl) ?_
  exact Wk0
theorem zxH (s:Sl DPassage):Con.con s=s.l:=List.map_id _
theorem i64z:I64 0:=by unfold I64;omega
theorem zxI {c:DChart} {f:List DShip} {a:Sl DPassage} {h h2:Hp} (hc:Enc.ok h c) (ha:a.Ok h):Enc.ok h2 (zxB (Con.con c) f (Con.con a)).1:=by
 rw [zxH,zxB]
 split
 ·rename_i hq
  simp only [jJ,decide_eq_true_eq] at hq
  obtain ⟨⟨h0,hC⟩,-⟩:=hq
  have hn1:a.l.length - 1 < a.l.length:=by omega
  obtain ⟨h1,h2⟩:=zxE hC h0
  obtain ⟨h3,h4⟩:=zxE hC hn1
  have hs1:a.l[0].seg.toNat < c.segments.l.length:=by omega
  have hs2:a.l[a.l.length - 1].seg.toNat < c.segments.l.length:=by omega
  have o1:=ha.el h0
  have o2:=ha.el hn1
  have o3:=hc.2.el hs1
  have o4:=hc.2.el hs2
  show I64 _∧I64 _∧I64 _∧I64 _
  rw [zxA,qget h0,qget hn1,zvK _ _ hs1,zvK _ _ hs2]
  refine ⟨o1.2.2.1,o2.2.2.2,?_,?_⟩
  ·dsimp only;split
   ·exact o3.1
   ·exact o3.2.1
  ·dsimp only;split
   ·exact o4.2.1
   ·exact o4.1
 ·exact ⟨i64z,i64z,i64z,i64z⟩
def arOk (c:PChart) (s:DShip) (r st:List Int):Bool:=!decide (zxn c r < 0) && zvj s && decide (0 < r.length) && decide (r.length=st.length)
def zxJ (c:PChart) (s:DShip) (r st:List Int):Int :=
 if arOk c s r st=true then (if In (st.getD (r.length - 1) 0) 0 2880=true then IntKind.i64.wrap (st.getD (r.length - 1) 0+zvG s (c.segments.getD (r.getD (r.length - 1) 0).toNat dG)) else -1) else -1
theorem zxK {c:PChart} {s:DShip} {r st:List Int} (h:arOk c s r st=false):zxJ c s r st=-1:=by rw [zxJ,if_neg (by rw [h];exact Bool.false_ne_true)]
def zxL (c:PChart) (ship:Int) (s:DShip) (pts r st:List Int) (i:Nat):DPassage :=
 ⟨ship,r.getD i 0,pts.getD i 0 == (c.segments.getD (r.getD i 0).toNat dG).a,st.getD i 0,IntKind.i64.wrap (st.getD i 0+zvG s (c.segments.getD (r.getD i 0).toNat dG))⟩
def pasL (c:PChart) (ship:Int) (s:DShip) (pts r st:List Int) (k:Nat):List DPassage:=(List.range k).map (zxL c ship s pts r st)
def zxM (c:PChart) (s:DShip) (a:Int) (r st:List Int):Bool:=zxf c a r && zvj s && decide (r.length=st.length)
def zxN (c:PChart) (ship:Int) (s:DShip) (a:Int) (r st:List Int):List DPassage :=
 if zxM c s a r st=true∧(∀ i,i < r.length→In (st.getD i 0) 0 2880=true) then pasL c ship s ((zwV c a r).getD []) r st r.length else []
theorem zxO {c:PChart} {ship:Int} {s:DShip} {a:Int} {r st:List Int} (h:¬ (zxM c s a r st=true∧∀ i,i < r.length→In (st.getD i 0) 0 2880=true)):zxN c ship s a r st=[]:=by rw [zxN,if_neg h]
theorem zxP {c:PChart} {ship:Int} {s:DShip} {pts r st:List Int} {k:Nat}:pasL c ship s pts r st (k+1)=pasL c ship s pts r st k ++ [zxL c ship s pts r st k]:=by rw [pasL,List.range_succ,List.map_append];rfl
theorem zxQ {c:PChart} {ship:Int} {s:DShip} {pts r st:List Int} {k:Nat}:(pasL c ship s pts r st k).length=k:=by rw [pasL,List.length_map,List.length_range]
theorem zxR {c:DChart} {ship:Int} {s:DShip} {pts:List Int} {r st:Sl Int} {h h2:Hp} (hs:I64 ship) (hr:r.Ok h) (hst:st.Ok h) {k:Nat} (hk:k≤r.l.length) (hk2:k≤st.l.length):∀ x ∈ pasL (Con.con c) ship s pts r.l st.l k,Enc.ok h2 x:=fun x hx=>by
 obtain ⟨i,hi,rfl⟩:=List.mem_map.1 hx
 have hi:=List.mem_range.1 hi
 have h1:i < r.l.length:=by omega
 have h2:i < st.l.length:=by omega
 refine ⟨hs,?_,?_,i64w _⟩
 ·show I64 (r.l.getD i 0);rw [iget h1];exact hr.el h1
 ·show I64 (st.l.getD i 0);rw [iget h2];exact hst.el h2
theorem zZW (c:DChart) (s:DShip) (r t:Sl Int) (h:Hp) (hc:Enc.ok h c) (hs:Enc.ok h s) (hr:r.Ok h) (ht:t.Ok h):Ct jV 173 [c.v,s.v,r.val,t.val] h fun v h'=>v=.int .i64 (zxJ (Con.con c) s r.l t.l)∧h'=h:=by
 have hl:=hr.max
 have hl2:=ht.max
 have hsl:(Con.con c).segments=c.segments.l:=zvJ c
 refine zdn (fun A W=>by simp) Tryz.func173 rfl rfl (by simp) fun W0=>?_
 repeat' first|refine Wa ?_|refine zhF (fun _=>zZT c r _ hc hr) ?_|refine zhF (fun _=>zZa s _ hs) ?_|(simp only [go_sem,jq,jj,jy,jv,jk,jx];try rfl)|refine Wb ?_|fail
 refine zc9 rfl (fun hx=>?_) (fun hx=>?_)
 ·rw [zxK (by
   rw [arOk]
   simp only [jQ,Bool.not_eq_true',beq_iff_eq,bne_iff_ne] at hx
   rw [Bool.and_eq_false_iff,Bool.and_eq_false_iff,Bool.and_eq_false_iff,Bool.not_eq_false',decide_eq_false_iff_not,decide_eq_false_iff_not,decide_eq_true_eq]
   rcases hx with ((hx|hx)|hx)|hx
   ·exact .inl (.inl (.inl (of_decide_eq_true hx)))
   ·exact .inl (.inl (.inr hx))
   ·first|exact .inl (.inr (by omega))|exact .inr (by omega)
   ·first|exact .inr (by omega)|exact .inl (.inr (by omega)))]
  exact Wk0
 have hok:arOk (Con.con c) s r.l t.l=true:=by
  rw [arOk]
  simp only [jp,Bool.not_eq_false',beq_eq_false_iff_ne,bne_eq_false_iff_eq,ne_eq] at hx
  obtain ⟨⟨⟨h1,h2⟩,h3⟩,h4⟩:=hx
  have h1:=of_decide_eq_false h1
  rw [jJ,jJ,jJ,Bool.not_eq_true',decide_eq_false_iff_not,decide_eq_true_eq,decide_eq_true_eq]
  exact ⟨⟨⟨h1,h2⟩,by omega⟩,by omega⟩
 have hok2:=hok
 rw [arOk,jJ,jJ,jJ,Bool.not_eq_true',decide_eq_false_iff_not,decide_eq_true_eq,decide_eq_true_eq] at hok2
 obtain ⟨⟨⟨hm,hS⟩,h0⟩,hle⟩:=hok2
 obtain ⟨n,hn⟩:∃ n,r.l.length=n+1:=⟨r.l.length - 1,by omega⟩
 have hn1:n < r.l.length:=by omega
 have hn2:n < t.l.length:=by omega
 have hn1i:(n:Int) < r.l.length:=by omega
 have hn2i:(n:Int) < t.l.length:=by omega
 have hn1w:IntKind.i64.wrap ((r.l.length:Int) - 1)=(n:Int):=by rw [zjz (by omega)];omega
 have hn2w:IntKind.i64.wrap ((t.l.length:Int) - 1)=(n:Int):=by rw [zjz (by omega)];omega
 have hin:=(zxp hm).2 n hn1
 rw [rmOk,iget hn1,decide_eq_true_eq,hsl] at hin
 obtain ⟨hx0,hx1⟩:=hin
 have hsi:r.l[n].toNat < c.segments.l.length:=by omega
 have hF:zxJ (Con.con c) s r.l t.l=if In t.l[n] 0 2880=true then IntKind.i64.wrap (t.l[n]+zvG s c.segments.l[r.l[n].toNat]) else -1:=by
  rw [zxJ,if_pos hok,hn,Nat.add_sub_cancel,iget hn1,iget hn2,hsl,gget hsi]
 rw [hF]
 repeat' first|refine Wa ?_|refine zhF (fun _=>zYZ _ _ _ _) ?_|(simp only [go_sem,jq,jj,jy,jv,jk,jx,hn1w,hn2w,zkv hr hn1,hr.some hn1,hn1,hn1i,zkv ht hn2,ht.some hn2,hn2,hn2i,zlS hc.2 hsi,zkU hc.2 hsi,hc.2.some hsi,hsi,hx0,hx1,jW,jY,implies_true,true_and,and_true,and_self];try rfl)|refine Wb ?_|fail
 refine zc9 rfl (fun hy=>?_) (fun hy=>?_)
 ·rw [Bool.not_eq_true'] at hy
  rw [if_neg (by rw [In,hy];exact Bool.false_ne_true)]
  exact Wk0
 rw [Bool.not_eq_false'] at hy
 rw [if_pos (by rw [In,hy])]
 repeat' first|refine Wa ?_|(simp only [go_sem,jq,jj,jy,jv,jk,jx,hn1w,hn2w,zkv hr hn1,hr.some hn1,hn1,hn1i,zkv ht hn2,ht.some hn2,hn2,hn2i,zlS hc.2 hsi,zkU hc.2 hsi,hc.2.some hsi,hsi,hx0,hx1,jW,jY,implies_true,true_and,and_true,and_self];try rfl)|refine Wb ?_|fail
 refine znv rfl ?_
 refine U_t [0,1,3,4,11,2,5,6,7,8,9,10] rfl ?_
 simp only [go_sem,jq,jj,jy,jv,jk,jx,hn1w,hn2w,zkv hr hn1,hr.some hn1,hn1,hn1i,zkv ht hn2,ht.some hn2,hn2,hn2i,zlS hc.2 hsi,zkU hc.2 hsi,hc.2.some hsi,hsi,hx0,hx1,jW,jY,implies_true,true_and,and_true,and_self]
 refine U_1 12 0 [] rfl rfl ?_
 simp only [go_sem,jq,jj,jy,jv,jk,jx,hn1w,hn2w,zkv hr hn1,hr.some hn1,hn1,hn1i,zkv ht hn2,ht.some hn2,hn2,hn2i,zlS hc.2 hsi,zkU hc.2 hsi,hc.2.some hsi,hsi,hx0,hx1,jW,jY,implies_true,true_and,and_true,and_self]
 refine zhF (fun _=>zZj _ _ _) ?_
 simp only [go_sem,jq,jj,jy,jv,jk,jx,hn1w,hn2w,zkv hr hn1,hr.some hn1,hn1,hn1i,zkv ht hn2,ht.some hn2,hn2,hn2i,zlS hc.2 hsi,zkU hc.2 hsi,hc.2.some hsi,hsi,hx0,hx1,jW,jY,implies_true,true_and,and_true,and_self]
 refine U_t [13,14] rfl ?_
 simp only [go_sem,jq,jj,jy,jv,jk,jx,hn1w,hn2w,zkv hr hn1,hr.some hn1,hn1,hn1i,zkv ht hn2,ht.some hn2,hn2,hn2i,zlS hc.2 hsi,zkU hc.2 hsi,hc.2.some hsi,hsi,hx0,hx1,jW,jY,implies_true,true_and,and_true,and_self]
 refine U_d ?_
 exact Wk0
theorem zZX (c:DChart) (ship:Int) (s:DShip) (a:Int) (r t:Sl Int) (h:Hp) (hc:Enc.ok h c) (hsh:I64 ship) (hs:Enc.ok h s) (ha:I64 a) (hr:r.Ok h) (ht:t.Ok h) (hz:r.l.length≤1048576):Ct jV 174 [c.v,.int .i64 ship,s.v,.int .i64 a,r.val,t.val] h fun v h'=>∃ q:Sl DPassage,v=q.val∧q.l=zxN (Con.con c) ship s a r.l t.l∧q.Ok h'∧Mine h h' q:=by
 have hl:=hr.max
 have hsl:(Con.con c).segments=c.segments.l:=zvJ c
 refine zdn (fun A W=>by simp) Tryz.func174 rfl rfl (by simp) fun W0=>?_
 repeat' first|refine Wa ?_|refine zhF (fun _=>zZR c a r _ hc ha hr hz) ?_|refine zhF (fun _=>zZa s _ hs) ?_|(simp only [go_sem,jq,jj,jy,jv,jk,jx];try rfl)|refine Wb ?_|fail
 refine zc9 rfl (fun hx=>?_) (fun hx=>?_)
 ·rw [zxO (fun H=>by
   have h1:=H.1
   rw [zxM,jJ,jJ,decide_eq_true_eq] at h1
   simp only [h1.1.1,h1.1.2,h1.2,Bool.not_true,Bool.or_self,Bool.false_or,bne_self_eq_false,reduceCtorEq] at hx)]
  refine Wk ?_
  exact ⟨⟨none,0,[]⟩,rfl,rfl,zmo,Mine.nil⟩
 simp only [jp,Bool.not_eq_false',bne_eq_false_iff_eq] at hx
 obtain ⟨⟨hR,hS⟩,hL⟩:=hx
 have hL:r.l.length=t.l.length:=by omega
 have hok:zxM (Con.con c) s a r.l t.l=true:=by rw [zxM,hR,hS,decide_eq_true hL];rfl
 obtain ⟨hC,hin,pl,hpl,hpk,hplen,hpx⟩:=zxi hR
 refine Wk ?_
 refine zkj (zZS c a r _ hc ha hr hz) rfl ?_
 rintro v h1 le1 ⟨p,rfl,e1,pok⟩
 rw [hpl] at e1
 have e1:p.l=pl:=e1
 have hc1:Enc.ok h1 c:=Enc.mono le1 hc
 have hs1:Enc.ok h1 s:=Enc.mono le1 hs
 have hr1:=hr.mono le1
 have ht1:=ht.mono le1
 refine Wk ?_
 refine zl0 (ι:=Nat) (fun k=>⟨[(1,true,.c (.v (.int .i64 ship))),(5,true,.c (.v t.val)),(6,true,.c (.p 0 0)),(8,true,.c (.p 1 0)),(12,true,.c (.v (.slice none 0 0))),(13,true,.c (.s 2)),(14,true,.c (.v p.val)),(39,true,.c (.v r.val)),(40,true,.c (.v (.int .i64 r.l.length))),(41,true,.c (.v (.int .i64 k)))],[(0,.box 57 [.v c.points.val,.v c.segments.val]),(1,.box 157 [.v (.string s.name),.v (.int .i64 s.length),.v (.int .i64 s.draught),.v (.int .i64 s.line),.v (.int .i64 s.tugs),.v (.bool s.slow)]),(2,.row 222 5 (pasL (Con.con c) ship s p.l r.l t.l k).length ((pasL (Con.con c) ship s p.l r.l t.l k).flatMap Enc.enc))],h1,3⟩) (fun k=>k≤r.l.length∧∀ i,i < k→In (t.l.getD i 0) 0 2880=true) (fun k=>r.l.length - k) 0 ⟨Nat.zero_le _,zvf⟩ [0,1,2] ?_ ?_
 ·refine Evs ?_
  exact Gk
 intro k hk
 refine Wk ?_
 refine zc9 rfl (fun hd=>?_) (fun hd=>?_)
 ·have hlt:=zjH hd
  have hlti:(k:Int) < r.l.length:=by omega
  have hlt2:k < t.l.length:=by omega
  have hlt2i:(k:Int) < t.l.length:=by omega
  have hlt3:k < p.l.length:=by rw [e1];omega
  have hlt3i:(k:Int) < p.l.length:=by omega
  have hseg:=zxj hpk (Nat.le_refl _) k hlt hlt
  rw [hsl] at hseg
  obtain ⟨hx0,hx1⟩:=hseg
  have hsi:r.l[k].toNat < c.segments.l.length:=by omega
  repeat' first|refine Wa ?_|refine zhF (fun _=>zYZ _ _ _ _) ?_|(simp only [go_sem,jq,jj,jy,jv,jk,jx,zkv hr1 hlt,hr1.some hlt,hlt,hlti,zkv ht1 hlt2,ht1.some hlt2,hlt2,hlt2i,jW,jY];try rfl)|refine Wb ?_|fail
  refine zc9 rfl (fun hy=>?_) (fun hy=>?_)
  ·rw [Bool.not_eq_true'] at hy
   rw [zxO (fun H=>by
    have:=H.2 k hlt
    rw [iget hlt2,In,hy] at this;cases this)]
   refine Wk ?_
   exact ⟨⟨none,0,[]⟩,rfl,rfl,zmo,Mine.nil⟩
  rw [Bool.not_eq_false'] at hy
  have hplk:=zxQ (c:=Con.con c) (ship:=ship) (s:=s) (pts:=p.l) (r:=r.l) (st:=t.l) (k:=k)
  have hat:zxL (Con.con c) ship s p.l r.l t.l k=⟨ship,r.l[k],p.l[k] == c.segments.l[r.l[k].toNat].a,t.l[k],IntKind.i64.wrap (t.l[k]+zvG s c.segments.l[r.l[k].toNat])⟩:=by
   rw [zxL,iget hlt,iget hlt2,iget hlt3,hsl,gget hsi]
  repeat' first|refine Wa ?_|(simp only [go_sem,jq,jj,jy,jv,jk,jx,zkv pok hlt3,pok.some hlt3,hlt3,hlt3i,zkv hr1 hlt,hr1.some hlt,hlt,hlti,zkv ht1 hlt2,ht1.some hlt2,hlt2,hlt2i,jW,jY,zlS hc1.2 hsi,zkU hc1.2 hsi,hc1.2.some hsi,hsi,hx0,hx1,implies_true,true_and,and_true,and_self];try rfl)|refine Wb ?_|fail
  refine znv rfl ?_
  refine U_t [0,1,2,3,5,9,10,14,15,18,19,22,24,27,4,11,16,20,23,6,12,17,21,25,7,26,8,13] rfl ?_
  simp only [go_sem,jq,jj,jy,jv,jk,jx,zkv pok hlt3,pok.some hlt3,hlt3,hlt3i,zkv hr1 hlt,hr1.some hlt,hlt,hlti,zkv ht1 hlt2,ht1.some hlt2,hlt2,hlt2i,jW,jY,zlS hc1.2 hsi,zkU hc1.2 hsi,hc1.2.some hsi,hsi,hx0,hx1,implies_true,true_and,and_true,and_self]
  refine U_1 28 0 [13,8,7,21,17,12,6,20,16,11,4,3] rfl rfl ?_
  simp only [go_sem,jq,jj,jy,jv,jk,jx,zkv pok hlt3,pok.some hlt3,hlt3,hlt3i,zkv hr1 hlt,hr1.some hlt,hlt,hlti,zkv ht1 hlt2,ht1.some hlt2,hlt2,hlt2i,jW,jY,zlS hc1.2 hsi,zkU hc1.2 hsi,hc1.2.some hsi,hsi,hx0,hx1,implies_true,true_and,and_true,and_self]
  refine zhF (fun _=>zZj _ _ _) ?_
  simp only [go_sem,jq,jj,jy,jv,jk,jx,zkv pok hlt3,pok.some hlt3,hlt3,hlt3i,zkv hr1 hlt,hr1.some hlt,hlt,hlti,zkv ht1 hlt2,ht1.some hlt2,hlt2,hlt2i,jW,jY,zlS hc1.2 hsi,zkU hc1.2 hsi,hc1.2.some hsi,hsi,hx0,hx1,implies_true,true_and,and_true,and_self]
  refine U_t [29] rfl ?_
  simp only [go_sem,jq,jj,jy,jv,jk,jx,zkv pok hlt3,pok.some hlt3,hlt3,hlt3i,zkv hr1 hlt,hr1.some hlt,hlt,hlti,zkv ht1 hlt2,ht1.some hlt2,hlt2,hlt2i,jW,jY,zlS hc1.2 hsi,zkU hc1.2 hsi,hc1.2.some hsi,hsi,hx0,hx1,implies_true,true_and,and_true,and_self]
  refine U_1 30 0 [] rfl rfl ?_
  simp only [go_sem,jq,jj,jy,jv,jk,jx,zkv pok hlt3,pok.some hlt3,hlt3,hlt3i,zkv hr1 hlt,hr1.some hlt,hlt,hlti,zkv ht1 hlt2,ht1.some hlt2,hlt2,hlt2i,jW,jY,zlS hc1.2 hsi,zkU hc1.2 hsi,hc1.2.some hsi,hsi,hx0,hx1,implies_true,true_and,and_true,and_self]
  refine U_1 31 0 [] rfl rfl ?_
  simp only [go_sem,jq,jj,jy,jv,jk,jx,zkv pok hlt3,pok.some hlt3,hlt3,hlt3i,zkv hr1 hlt,hr1.some hlt,hlt,hlti,zkv ht1 hlt2,ht1.some hlt2,hlt2,hlt2i,jW,jY,zlS hc1.2 hsi,zkU hc1.2 hsi,hc1.2.some hsi,hsi,hx0,hx1,implies_true,true_and,and_true,and_self]
  refine U_1 32 0 [] rfl rfl ?_
  simp only [go_sem,jq,jj,jy,jv,jk,jx,zkv pok hlt3,pok.some hlt3,hlt3,hlt3i,zkv hr1 hlt,hr1.some hlt,hlt,hlti,zkv ht1 hlt2,ht1.some hlt2,hlt2,hlt2i,jW,jY,zlS hc1.2 hsi,zkU hc1.2 hsi,hc1.2.some hsi,hsi,hx0,hx1,implies_true,true_and,and_true,and_self]
  refine ⟨by simp only [maxLen];omega,by omega,?_⟩
  refine U_t [33] rfl ?_
  simp only [go_sem,jq,jj,jy,jv,jk,jx,zkv pok hlt3,pok.some hlt3,hlt3,hlt3i,zkv hr1 hlt,hr1.some hlt,hlt,hlti,zkv ht1 hlt2,ht1.some hlt2,hlt2,hlt2i,jW,jY,zlS hc1.2 hsi,zkU hc1.2 hsi,hc1.2.some hsi,hsi,hx0,hx1,implies_true,true_and,and_true,and_self]
  refine U_d ?_
  refine Wk ?_
  refine ⟨k+1,[0,1,4],⟨hlt,zvd hk.2 (by rw [iget hlt2,In];exact hy)⟩,by omega,?_⟩
  refine Evs ?_
  rw [zxP,List.flatMap_append,List.length_append,hat,show (c.segments.l[r.l[k].toNat].a == p.l[k])=(p.l[k] == c.segments.l[r.l[k].toNat].a) from by rw [Bool.eq_iff_iff,beq_iff_eq,beq_iff_eq];exact eq_comm]
  exact Gi (zjA hlt (by omega))
 ·have hge:=zjI hd
  have hke:k=r.l.length:=by omega
  subst hke
  refine zc6 ?_
  refine Evs ?_
  refine zlE 2 (pasL (Con.con c) ship s p.l r.l t.l r.l.length) rfl rfl rfl rfl (by decide) (zxR hsh hr ht (Nat.le_refl _) (by omega)) h le1 (Mines.flat (fun _=>rfl) (fun _=>trivial)) fun q h' e2 e3 e4 e5=>?_
  refine Wk ?_
  refine ⟨q,rfl,?_,e3,e5⟩
  rw [e2,zxN,if_pos ⟨hok,fun i hi=>hk.2 i hi⟩,hpl,e1];rfl
theorem zxS (c:DChart) (s:DShip) (r t:Sl Int) (h:Hp) (hc:Enc.ok h c) (hs:Enc.ok h s) (hr:r.Ok h) (ht:t.Ok h):Ct jV 180 [c.v,s.v,r.val,t.val] h fun v h'=>v=.int .i64 (zxJ (Con.con c) s r.l t.l)∧h'=h:=by
 have hl:=hr.max
 have hl2:=ht.max
 have hsl:(Con.con c).segments=c.segments.l:=zvJ c
 refine zdn (fun A W=>by simp) Tryz.func180 rfl rfl (by simp) fun W0=>?_
 repeat' first|refine Wa ?_|refine zhF (fun _=>zxq c r _ hc hr) ?_|refine zhF (fun _=>zvq s _ hs) ?_|(simp only [go_sem,jq,jj,jy,jv,jk,jx];try rfl)|refine Wb ?_|fail
 refine zc9 rfl (fun hx=>?_) (fun hx=>?_)
 ·rw [zxK (by
   rw [arOk]
   simp only [jQ,Bool.not_eq_true',beq_iff_eq,bne_iff_ne] at hx
   rw [Bool.and_eq_false_iff,Bool.and_eq_false_iff,Bool.and_eq_false_iff,Bool.not_eq_false',decide_eq_false_iff_not,decide_eq_false_iff_not,decide_eq_true_eq]
   rcases hx with ((hx|hx)|hx)|hx
   ·exact .inl (.inl (.inl (of_decide_eq_true hx)))
   ·exact .inl (.inl (.inr hx))
   ·first|exact .inl (.inr (by omega))|exact .inr (by omega)
   ·first|exact .inr (by omega)|exact .inl (.inr (by omega)))]
  exact Wk0
 have hok:arOk (Con.con c) s r.l t.l=true:=by
  rw [arOk]
  simp only [jp,Bool.not_eq_false',beq_eq_false_iff_ne,bne_eq_false_iff_eq,ne_eq] at hx
  obtain ⟨⟨⟨h1,h2⟩,h3⟩,h4⟩:=hx
  have h1:=of_decide_eq_false h1
  rw [jJ,jJ,jJ,Bool.not_eq_true',decide_eq_false_iff_not,decide_eq_true_eq,decide_eq_true_eq]
  exact ⟨⟨⟨h1,h2⟩,by omega⟩,by omega⟩
 have hok2:=hok
 rw [arOk,jJ,jJ,jJ,Bool.not_eq_true',decide_eq_false_iff_not,decide_eq_true_eq,decide_eq_true_eq] at hok2
 obtain ⟨⟨⟨hm,hS⟩,h0⟩,hle⟩:=hok2
 obtain ⟨n,hn⟩:∃ n,r.l.length=n+1:=⟨r.l.length - 1,by omega⟩
 have hn1:n < r.l.length:=by omega
 have hn2:n < t.l.length:=by omega
 have hn1i:(n:Int) < r.l.length:=by omega
 have hn2i:(n:Int) < t.l.length:=by omega
 have hn1w:IntKind.i64.wrap ((r.l.length:Int) - 1)=(n:Int):=by rw [zjz (by omega)];omega
 have hn2w:IntKind.i64.wrap ((t.l.length:Int) - 1)=(n:Int):=by rw [zjz (by omega)];omega
 have hin:=(zxp hm).2 n hn1
 rw [rmOk,iget hn1,decide_eq_true_eq,hsl] at hin
 obtain ⟨hx0,hx1⟩:=hin
 have hsi:r.l[n].toNat < c.segments.l.length:=by omega
 have hF:zxJ (Con.con c) s r.l t.l=if In t.l[n] 0 2880=true then IntKind.i64.wrap (t.l[n]+zvG s c.segments.l[r.l[n].toNat]) else -1:=by
  rw [zxJ,if_pos hok,hn,Nat.add_sub_cancel,iget hn1,iget hn2,hsl,gget hsi]
 rw [hF]
 repeat' first|refine Wa ?_|refine zhF (fun _=>zun _ _) ?_|(simp only [go_sem,jq,jj,jy,jv,jk,jx,hn1w,hn2w,zkv hr hn1,hr.some hn1,hn1,hn1i,zkv ht hn2,ht.some hn2,hn2,hn2i,zlS hc.2 hsi,zkU hc.2 hsi,hc.2.some hsi,hsi,hx0,hx1,jW,jY,implies_true,true_and,and_true,and_self];try rfl)|refine Wb ?_|fail
 refine zc9 rfl (fun hy=>?_) (fun hy=>?_)
 ·rw [Bool.not_eq_true'] at hy
  rw [if_neg (by rw [In,hy];exact Bool.false_ne_true)]
  exact Wk0
 rw [Bool.not_eq_false'] at hy
 rw [if_pos (by rw [In,hy])]
 repeat' first|refine Wa ?_|(simp only [go_sem,jq,jj,jy,jv,jk,jx,hn1w,hn2w,zkv hr hn1,hr.some hn1,hn1,hn1i,zkv ht hn2,ht.some hn2,hn2,hn2i,zlS hc.2 hsi,zkU hc.2 hsi,hc.2.some hsi,hsi,hx0,hx1,jW,jY,implies_true,true_and,and_true,and_self];try rfl)|refine Wb ?_|fail
 refine znv rfl ?_
 refine U_t [0,1,4,5,7,8,2,6,9,3,10,11,12] rfl ?_
 simp only [go_sem,jq,jj,jy,jv,jk,jx,hn1w,hn2w,zkv hr hn1,hr.some hn1,hn1,hn1i,zkv ht hn2,ht.some hn2,hn2,hn2i,zlS hc.2 hsi,zkU hc.2 hsi,hc.2.some hsi,hsi,hx0,hx1,jW,jY,implies_true,true_and,and_true,and_self]
 refine U_1 13 0 [3,2] rfl rfl ?_
 simp only [go_sem,jq,jj,jy,jv,jk,jx,hn1w,hn2w,zkv hr hn1,hr.some hn1,hn1,hn1i,zkv ht hn2,ht.some hn2,hn2,hn2i,zlS hc.2 hsi,zkU hc.2 hsi,hc.2.some hsi,hsi,hx0,hx1,jW,jY,implies_true,true_and,and_true,and_self]
 refine zhF (fun _=>zvM _ _ _) ?_
 simp only [go_sem,jq,jj,jy,jv,jk,jx,hn1w,hn2w,zkv hr hn1,hr.some hn1,hn1,hn1i,zkv ht hn2,ht.some hn2,hn2,hn2i,zlS hc.2 hsi,zkU hc.2 hsi,hc.2.some hsi,hsi,hx0,hx1,jW,jY,implies_true,true_and,and_true,and_self]
 refine U_t [14,15] rfl ?_
 simp only [go_sem,jq,jj,jy,jv,jk,jx,hn1w,hn2w,zkv hr hn1,hr.some hn1,hn1,hn1i,zkv ht hn2,ht.some hn2,hn2,hn2i,zlS hc.2 hsi,zkU hc.2 hsi,hc.2.some hsi,hsi,hx0,hx1,jW,jY,implies_true,true_and,and_true,and_self]
 refine U_d ?_
 exact Wk0
theorem zxT (c:DChart) (ship:Int) (s:DShip) (a:Int) (r t:Sl Int) (h:Hp) (hc:Enc.ok h c) (hsh:I64 ship) (hs:Enc.ok h s) (ha:I64 a) (hr:r.Ok h) (ht:t.Ok h) (hz:r.l.length≤1048576):Ct jV 179 [c.v,.int .i64 ship,s.v,.int .i64 a,r.val,t.val] h fun v h'=>∃ q:Sl DPassage,v=q.val∧q.l=zxN (Con.con c) ship s a r.l t.l∧q.Ok h'∧Mine h h' q:=by
 have hl:=hr.max
 have hsl:(Con.con c).segments=c.segments.l:=zvJ c
 refine zdn (fun A W=>by simp) Tryz.func179 rfl rfl (by simp) fun W0=>?_
 repeat' first|refine Wa ?_|refine zhF (fun _=>zxk c a r _ hc ha hr hz) ?_|refine zhF (fun _=>zvq s _ hs) ?_|(simp only [go_sem,jq,jj,jy,jv,jk,jx];try rfl)|refine Wb ?_|fail
 refine zc9 rfl (fun hx=>?_) (fun hx=>?_)
 ·rw [zxO (fun H=>by
   have h1:=H.1
   rw [zxM,jJ,jJ,decide_eq_true_eq] at h1
   simp only [h1.1.1,h1.1.2,h1.2,Bool.not_true,Bool.or_self,Bool.false_or,bne_self_eq_false,reduceCtorEq] at hx)]
  refine Wk ?_
  exact ⟨⟨none,0,[]⟩,rfl,rfl,zmo,Mine.nil⟩
 simp only [jp,Bool.not_eq_false',bne_eq_false_iff_eq] at hx
 obtain ⟨⟨hR,hS⟩,hL⟩:=hx
 have hL:r.l.length=t.l.length:=by omega
 have hok:zxM (Con.con c) s a r.l t.l=true:=by rw [zxM,hR,hS,decide_eq_true hL];rfl
 obtain ⟨hC,hin,pl,hpl,hpk,hplen,hpx⟩:=zxi hR
 refine Wk ?_
 refine zkj (zxl c a r _ hc ha hr hz) rfl ?_
 rintro v h1 le1 ⟨p,rfl,e1,pok⟩
 rw [hpl] at e1
 have e1:p.l=pl:=e1
 have hc1:Enc.ok h1 c:=Enc.mono le1 hc
 have hs1:Enc.ok h1 s:=Enc.mono le1 hs
 have hr1:=hr.mono le1
 have ht1:=ht.mono le1
 refine Wk ?_
 refine zl0 (ι:=Nat) (fun k=>⟨[(1,true,.c (.v (.int .i64 ship))),(5,true,.c (.v t.val)),(6,true,.c (.p 0 0)),(8,true,.c (.p 1 0)),(12,true,.c (.v (.slice none 0 0))),(13,true,.c (.v p.val)),(14,true,.c (.s 2)),(40,true,.c (.v r.val)),(41,true,.c (.v (.int .i64 r.l.length))),(42,true,.c (.v (.int .i64 k)))],[(0,.box 57 [.v c.points.val,.v c.segments.val]),(1,.box 157 [.v (.string s.name),.v (.int .i64 s.length),.v (.int .i64 s.draught),.v (.int .i64 s.line),.v (.int .i64 s.tugs),.v (.bool s.slow)]),(2,.row 222 5 (pasL (Con.con c) ship s p.l r.l t.l k).length ((pasL (Con.con c) ship s p.l r.l t.l k).flatMap Enc.enc))],h1,3⟩) (fun k=>k≤r.l.length∧∀ i,i < k→In (t.l.getD i 0) 0 2880=true) (fun k=>r.l.length - k) 0 ⟨Nat.zero_le _,zvf⟩ [0,1,2] ?_ ?_
 ·refine Evs ?_
  exact Gk
 intro k hk
 refine Wk ?_
 refine zc9 rfl (fun hd=>?_) (fun hd=>?_)
 ·have hlt:=zjH hd
  have hlti:(k:Int) < r.l.length:=by omega
  have hlt2:k < t.l.length:=by omega
  have hlt2i:(k:Int) < t.l.length:=by omega
  have hlt3:k < p.l.length:=by rw [e1];omega
  have hlt3i:(k:Int) < p.l.length:=by omega
  have hseg:=zxj hpk (Nat.le_refl _) k hlt hlt
  rw [hsl] at hseg
  obtain ⟨hx0,hx1⟩:=hseg
  have hsi:r.l[k].toNat < c.segments.l.length:=by omega
  repeat' first|refine Wa ?_|refine zhF (fun _=>zun _ _) ?_|(simp only [go_sem,jq,jj,jy,jv,jk,jx,zkv hr1 hlt,hr1.some hlt,hlt,hlti,zkv ht1 hlt2,ht1.some hlt2,hlt2,hlt2i,jW,jY];try rfl)|refine Wb ?_|fail
  refine zc9 rfl (fun hy=>?_) (fun hy=>?_)
  ·rw [Bool.not_eq_true'] at hy
   rw [zxO (fun H=>by
    have:=H.2 k hlt
    rw [iget hlt2,In,hy] at this;cases this)]
   refine Wk ?_
   exact ⟨⟨none,0,[]⟩,rfl,rfl,zmo,Mine.nil⟩
  rw [Bool.not_eq_false'] at hy
  have hplk:=zxQ (c:=Con.con c) (ship:=ship) (s:=s) (pts:=p.l) (r:=r.l) (st:=t.l) (k:=k)
  have hat:zxL (Con.con c) ship s p.l r.l t.l k=⟨ship,r.l[k],p.l[k] == c.segments.l[r.l[k].toNat].a,t.l[k],IntKind.i64.wrap (t.l[k]+zvG s c.segments.l[r.l[k].toNat])⟩:=by
   rw [zxL,iget hlt,iget hlt2,iget hlt3,hsl,gget hsi]
  repeat' first|refine Wa ?_|(simp only [go_sem,jq,jj,jy,jv,jk,jx,zkv pok hlt3,pok.some hlt3,hlt3,hlt3i,zkv hr1 hlt,hr1.some hlt,hlt,hlti,zkv ht1 hlt2,ht1.some hlt2,hlt2,hlt2i,jW,jY,zlS hc1.2 hsi,zkU hc1.2 hsi,hc1.2.some hsi,hsi,hx0,hx1,implies_true,true_and,and_true,and_self];try rfl)|refine Wb ?_|fail
  refine znv rfl ?_
  refine U_t [0,1,2,3,4,7,10,11,14,15,18,19,5,8,12,16,6,13,17,9] rfl ?_
  simp only [go_sem,jq,jj,jy,jv,jk,jx,zkv pok hlt3,pok.some hlt3,hlt3,hlt3i,zkv hr1 hlt,hr1.some hlt,hlt,hlti,zkv ht1 hlt2,ht1.some hlt2,hlt2,hlt2i,jW,jY,zlS hc1.2 hsi,zkU hc1.2 hsi,hc1.2.some hsi,hsi,hx0,hx1,implies_true,true_and,and_true,and_self]
  refine U_1 20 0 [9,17,13,6,16,12,8,5,7] rfl rfl ?_
  simp only [go_sem,jq,jj,jy,jv,jk,jx,zkv pok hlt3,pok.some hlt3,hlt3,hlt3i,zkv hr1 hlt,hr1.some hlt,hlt,hlti,zkv ht1 hlt2,ht1.some hlt2,hlt2,hlt2i,jW,jY,zlS hc1.2 hsi,zkU hc1.2 hsi,hc1.2.some hsi,hsi,hx0,hx1,implies_true,true_and,and_true,and_self]
  refine zhF (fun _=>zvM _ _ _) ?_
  simp only [go_sem,jq,jj,jy,jv,jk,jx,zkv pok hlt3,pok.some hlt3,hlt3,hlt3i,zkv hr1 hlt,hr1.some hlt,hlt,hlti,zkv ht1 hlt2,ht1.some hlt2,hlt2,hlt2i,jW,jY,zlS hc1.2 hsi,zkU hc1.2 hsi,hc1.2.some hsi,hsi,hx0,hx1,implies_true,true_and,and_true,and_self]
  refine U_t [21] rfl ?_
  simp only [go_sem,jq,jj,jy,jv,jk,jx,zkv pok hlt3,pok.some hlt3,hlt3,hlt3i,zkv hr1 hlt,hr1.some hlt,hlt,hlti,zkv ht1 hlt2,ht1.some hlt2,hlt2,hlt2i,jW,jY,zlS hc1.2 hsi,zkU hc1.2 hsi,hc1.2.some hsi,hsi,hx0,hx1,implies_true,true_and,and_true,and_self]
  refine U_1 22 0 [] rfl rfl ?_
  simp only [go_sem,jq,jj,jy,jv,jk,jx,zkv pok hlt3,pok.some hlt3,hlt3,hlt3i,zkv hr1 hlt,hr1.some hlt,hlt,hlti,zkv ht1 hlt2,ht1.some hlt2,hlt2,hlt2i,jW,jY,zlS hc1.2 hsi,zkU hc1.2 hsi,hc1.2.some hsi,hsi,hx0,hx1,implies_true,true_and,and_true,and_self]
  refine U_1 23 0 [] rfl rfl ?_
  simp only [go_sem,jq,jj,jy,jv,jk,jx,zkv pok hlt3,pok.some hlt3,hlt3,hlt3i,zkv hr1 hlt,hr1.some hlt,hlt,hlti,zkv ht1 hlt2,ht1.some hlt2,hlt2,hlt2i,jW,jY,zlS hc1.2 hsi,zkU hc1.2 hsi,hc1.2.some hsi,hsi,hx0,hx1,implies_true,true_and,and_true,and_self]
  refine U_1 24 0 [] rfl rfl ?_
  simp only [go_sem,jq,jj,jy,jv,jk,jx,zkv pok hlt3,pok.some hlt3,hlt3,hlt3i,zkv hr1 hlt,hr1.some hlt,hlt,hlti,zkv ht1 hlt2,ht1.some hlt2,hlt2,hlt2i,jW,jY,zlS hc1.2 hsi,zkU hc1.2 hsi,hc1.2.some hsi,hsi,hx0,hx1,implies_true,true_and,and_true,and_self]
  refine ⟨by simp only [maxLen];omega,by omega,?_⟩
  refine U_t [25] rfl ?_
  simp only [go_sem,jq,jj,jy,jv,jk,jx,zkv pok hlt3,pok.some hlt3,hlt3,hlt3i,zkv hr1 hlt,hr1.some hlt,hlt,hlti,zkv ht1 hlt2,ht1.some hlt2,hlt2,hlt2i,jW,jY,zlS hc1.2 hsi,zkU hc1.2 hsi,hc1.2.some hsi,hsi,hx0,hx1,implies_true,true_and,and_true,and_self]
  refine U_d ?_
  refine Wk ?_
  refine ⟨k+1,[0,1,5],⟨hlt,zvd hk.2 (by rw [iget hlt2,In];exact hy)⟩,by omega,?_⟩
  refine Evs ?_
  rw [zxP,List.flatMap_append,List.length_append,hat]
  exact Gi (zjA hlt (by omega))
 ·have hge:=zjI hd
  have hke:k=r.l.length:=by omega
  subst hke
  refine zc6 ?_
  refine Evs ?_
  refine zlE 2 (pasL (Con.con c) ship s p.l r.l t.l r.l.length) rfl rfl rfl rfl (by decide) (zxR hsh hr ht (Nat.le_refl _) (by omega)) h le1 (Mines.flat (fun _=>rfl) (fun _=>trivial)) fun q h' e2 e3 e4 e5=>?_
  refine Wk ?_
  refine ⟨q,rfl,?_,e3,e5⟩
  rw [e2,zxN,if_pos ⟨hok,fun i hi=>hk.2 i hi⟩,hpl,e1];rfl
end Go.Proofs.YtbkaaakphpbmiaaGreat
