/- What functions of the given program compute, each as a contract over what its arguments read as. No condition beside those that each theorem states. -/
import Derived.Test.YtjiggadgmmjnhaaGreatS12
set_option linter.unusedVariables false
set_option linter.unusedSimpArgs false
open Nat renaming reduceAdd → yqa, reduceMul → yqb, reduceBEq → yqc, reduceLeDiff → yqd, reduceLT → yqe, reduceEqDiff → yqf
open Bool renaming or_eq_false_iff → yqg, or_eq_true → yqh, and_eq_true → yqi
open Int renaming toNat_natCast → yqj, natCast_nonneg → yqk
namespace Go.Proofs.YtjiggadgmmjnhaaGreat
open Go Go.SL
set_option maxHeartbeats 1000000
theorem zJ4 {g:List DSegment} {pts pts':List Int} {s:Int} (h:zJS g pts s=some pts'):(0≤s∧s < g.length)∧0≤zJR (g.getD s.toNat dG) (pts.getLast?.getD 0)∧zJR (g.getD s.toNat dG) (pts.getLast?.getD 0) ∉ pts∧pts'=pts ++ [zJR (g.getD s.toNat dG) (pts.getLast?.getD 0)]:=by
 unfold zJS at h
 split at h
 ·rename_i h1
  split at h
  ·cases h
  ·rename_i h2
   rw [not_or] at h2
   exact ⟨h1,by omega,h2.2,(Option.some.inj h).symm⟩
 ·cases h
theorem zJ5 {g:List DSegment} {a:Int} {r pts:List Int} {k:Nat} (hk:k < r.length) (h:ptsK g a r k=some pts):ptsK g a r (k+1)=zJS g pts r[k]:=by
 rw [ptsK,h,Option.bind_some,List.getD_eq_getElem?_getD,List.getElem?_eq_getElem hk];rfl
theorem zJ6 {g:List DSegment} {a:Int} {r pts:List Int} {k:Nat} (h:ptsK g a r (k+1)=some pts):∃ p,ptsK g a r k=some p∧zJS g p (r.getD k 0)=some pts:=by
 rw [ptsK] at h
 cases hk:ptsK g a r k with
 | none=>rw [hk] at h;cases h
 | some p=>rw [hk,Option.bind_some] at h;exact ⟨p,rfl,h⟩
theorem zJ7 {g:List DSegment} {a:Int} {r:List Int}:∀ {k:Nat} {pts:List Int},ptsK g a r k=some pts→pts.length=k+1
 | 0,pts,h=>by rw [ptsK] at h;rw [← Option.some.inj h];rfl
 | k+1,pts,h=>by
  obtain ⟨p,h1,h2⟩:=zJ6 h
  rw [(zJ4 h2).2.2.2,List.length_append,zJ7 h1];rfl
theorem zJ8 {g:List DSegment} {a:Int} {r:List Int}:∀ {k:Nat} {pts:List Int},ptsK g a r k=some pts→pts.Nodup
 | 0,pts,h=>by rw [ptsK] at h;rw [← Option.some.inj h];simp
 | k+1,pts,h=>by
  obtain ⟨p,h1,h2⟩:=zJ6 h
  obtain ⟨_,_,h3,h4⟩:=zJ4 h2
  rw [h4,List.nodup_append]
  exact ⟨zJ8 h1,by simp,fun x hx y hy e=>by rw [List.mem_singleton.1 hy] at e;rw [e] at hx;exact h3 hx⟩
theorem zJ9 {c:PChart} (hC:zrC c=true) {a:Int} (ha:0≤a∧a < c.points.length) {r:List Int}:∀ {k:Nat} {pts:List Int},ptsK c.segments a r k=some pts→∀ x ∈ pts,0≤x∧x < c.points.length
 | 0,pts,h,x,hx=>by rw [ptsK] at h;rw [← Option.some.inj h,List.mem_singleton] at hx;rw [hx];exact ha
 | k+1,pts,h,x,hx=>by
  obtain ⟨p,h1,h2⟩:=zJ6 h
  obtain ⟨h0,h3,_,h4⟩:=zJ4 h2
  rw [h4] at hx
  rcases List.mem_append.1 hx with hx|hx
  ·exact zJ9 hC ha h1 x hx
  ·rw [List.mem_singleton.1 hx]
   exact ⟨h3,(zJX hC (by omega) _).1⟩
theorem zKa {l:List Int} {k:Nat} (h:l.length=k+1):l.getLast?.getD 0=l.getD k 0:=by
 rw [List.getLast?_eq_getElem?,h,List.getD_eq_getElem?_getD];rfl
def metV (l:List Int):List Value:=(List.range 8).map fun j:Nat=>.bool (decide ((j:Int) ∈ l))
def metC (l:List Int):List SC:=(metV l).map .v
theorem zKb {l:List Int}:(metV l).length=8:=by rw [metV,List.length_map,List.length_range]
theorem zKc {l:List Int}:(metC l).length=8:=by rw [metC,List.length_map,zKb]
theorem zKd {l:List Int} {x:Int} (h:0≤x∧x < 8):List.take x.toNat (metC l) ++ SC.v (.bool true) :: List.drop (x.toNat+1) (metC l)=metC (l ++ [x]):=by
 rw [zug (by rw [zKc];omega)]
 apply List.ext_getElem
 ·rw [List.length_set,zKc,zKc]
 ·intro i h1 h2
  rw [zKc] at h2
  simp only [metC,metV,List.getElem_set,List.getElem_map,List.getElem_range,List.mem_append,List.mem_singleton]
  by_cases e:x.toNat=i
  ·rw [if_pos e,decide_eq_true (.inr (by omega))]
  ·rw [if_neg e]
   congr 2
   rw [decide_eq_decide]
   exact ⟨.inl,fun h=>h.resolve_right (by omega)⟩
theorem zKe {l:List Int} {x:Int} (h:0≤x∧x < 8):(metC l).getD x.toNat (.v undef)=.v (.bool (decide (x ∈ l))):=by
 have hx:x.toNat < (metC l).length:=by rw [zKc];omega
 rw [List.getD_eq_getElem?_getD,List.getElem?_eq_getElem hx]
 simp only [metC,metV,List.getElem_map,List.getElem_range,Option.getD_some,Int.toNat_of_nonneg h.1]
theorem zKf (a:Sl Int) (n:Int) (h:Hp) (ha:a.Ok h):Ct Tryz.prog 222 [a.val,.int .i64 n] h fun v h'=>v=.bool (decide (n ∈ a.l))∧h'=h:=by
 have hl:=ha.max
 refine zdn (fun A W=>by simp) Tryz.func222 rfl rfl (by simp) fun W0=>?_
 repeat' first|refine zie rfl ?_|refine zc4 rfl ?_|refine zc7 ?_|refine zc8 ?_|refine zc5 ?_|refine zc6 ?_|(simp (maxSteps:=2000000) only [go_sem,yqa,yqb,yqc,yqd,yqe,yqf];try rfl)|refine zc3 ?_|(refine And.intro ?_ ?_;focus (intros;simp_all only [yqg,yqh,yqi,and_self,true_and,and_true];done))
 refine zde (ι:=Nat) (fun k=>⟨[(1,true,.c (.v (.int .i64 n))),(4,true,.c (.v (.bool false))),(7,true,.c (.v a.val)),(8,true,.c (.v (.int .i64 a.l.length))),(9,true,.c (.v (.int .i64 k)))],[],h,0⟩) (fun k=>k≤a.l.length∧n ∉ a.l.take k) (fun k=>a.l.length - k) 0 ⟨Nat.zero_le _,by simp⟩ ?_ ?_
 ·simp (maxSteps:=2000000) only [go_sem,yqa,yqb,yqc,yqd,yqe,yqf]
  first|exact rfl|exact ⟨rfl,rfl⟩|exact ⟨rfl,rfl,rfl⟩|exact ⟨rfl,rfl,rfl,rfl⟩|exact ⟨rfl,rfl,rfl,rfl,rfl⟩
 intro k hk
 repeat' first|refine zie rfl ?_|refine zc4 rfl ?_|refine zc7 ?_|refine zc8 ?_|refine zc5 ?_|refine zc6 ?_|(simp (maxSteps:=2000000) only [go_sem,yqa,yqb,yqc,yqd,yqe,yqf];try rfl)|refine zc3 ?_|(refine And.intro ?_ ?_;focus (intros;simp_all only [yqg,yqh,yqi,and_self,true_and,and_true];done))
 refine zc9 rfl (fun hd=>?_) (fun hd=>?_)
 ·have hlt:=zjH hd
  repeat' first|refine zie rfl ?_|refine zc4 rfl ?_|refine zc7 ?_|refine zc8 ?_|refine zc5 ?_|refine zc6 ?_|(simp (maxSteps:=2000000) only [go_sem,yqa,yqb,yqc,yqd,yqe,yqf,zkR ha hlt,ha.some hlt,hlt,yqj];try rfl)|refine zc3 ?_|(refine And.intro ?_ ?_;focus (intros;simp_all only [yqg,yqh,yqi,and_self,true_and,and_true];done))
  refine zc9 rfl (fun hx=>?_) (fun hx=>?_)
  ·have hx:a.l[k]=n:=eq_of_beq hx
   repeat' first|refine zie rfl ?_|refine zc4 rfl ?_|refine zc7 ?_|refine zc8 ?_|refine zc5 ?_|refine zc6 ?_|(simp (maxSteps:=2000000) only [go_sem,yqa,yqb,yqc,yqd,yqe,yqf];try rfl)|refine zc3 ?_|(refine And.intro ?_ ?_;focus (intros;simp_all only [yqg,yqh,yqi,and_self,true_and,and_true];done))
   rw [decide_eq_true (by rw [← hx];exact List.getElem_mem hlt)]
  ·have hx:¬ a.l[k]=n:=ne_of_beq_false hx
   repeat' first|refine zie rfl ?_|refine zc4 rfl ?_|refine zc7 ?_|refine zc8 ?_|refine zc5 ?_|refine zc6 ?_|(simp (maxSteps:=2000000) only [go_sem,yqa,yqb,yqc,yqd,yqe,yqf];try rfl)|refine zc3 ?_|(refine And.intro ?_ ?_;focus (intros;simp_all only [yqg,yqh,yqi,and_self,true_and,and_true];done))
   refine ⟨k+1,⟨hlt,by rw [List.take_succ_eq_append_getElem hlt,List.mem_append,List.mem_singleton];exact not_or.2 ⟨hk.2,fun e=>hx e.symm⟩⟩,by omega,zjB (zjA hlt (by omega))⟩
 ·have hge:=zjI hd
  repeat' first|refine zie rfl ?_|refine zc4 rfl ?_|refine zc7 ?_|refine zc8 ?_|refine zc5 ?_|refine zc6 ?_|(simp (maxSteps:=2000000) only [go_sem,yqa,yqb,yqc,yqd,yqe,yqf];try rfl)|refine zc3 ?_|(refine And.intro ?_ ?_;focus (intros;simp_all only [yqg,yqh,yqi,and_self,true_and,and_true];done))
  have h2:=hk.2
  rw [List.take_of_length_le hge] at h2
  rw [decide_eq_false h2]
theorem zKg (c:DChart) (a:Int) (r:Sl Int) (h:Hp) (hc:Enc.ok h c) (hr:r.Ok h) (ha:I64 a) (hz:r.l.length≤1048576):Ct Tryz.prog 168 [c.v,.int .i64 a,r.val] h fun v h'=>∃ s:Sl Int,v=.tuple #[s.val,.bool (ptsK c.segments.l a r.l r.l.length).isSome]∧s.l=(ptsK c.segments.l a r.l r.l.length).getD []∧s.Ok h':=by
 have hl:=hr.max
 have hgm:=hc.2.max
 refine zdn (fun A W=>by simp) Tryz.func168 rfl rfl (by simp) fun W0=>?_
 repeat' first|refine zie rfl ?_|refine zc4 rfl ?_|refine zc7 ?_|refine zc8 ?_|refine zc5 ?_|refine zc6 ?_|(simp (maxSteps:=2000000) only [go_sem,yqa,yqb,yqc,yqd,yqe,yqf];try rfl)|refine zc3 ?_|(refine And.intro ?_ ?_;focus (intros;simp_all only [yqg,yqh,yqi,and_self,true_and,and_true];done))
 refine zJQ 1 [a] rfl rfl rfl rfl fun s0 h0 e0 R0 f0 le0 k0=>?_
 simp (maxSteps:=2000000) only [go_sem,yqa,yqb,yqc,yqd,yqe,yqf]
 have W0':WS 3 h0 s0:=⟨R0,fun x hx=>by rw [e0,List.mem_singleton] at hx;subst hx;exact ha⟩
 refine zma (ι:=Nat × Hp × Sl Int) (fun i=>⟨[(3,true,.c (.p 0 0)),(6,true,.c (.v (.slice none 0 0))),(7,true,.c (.v (.bool false))),(8,true,.c (.v i.2.2.val)),(14,true,.c (.v r.val)),(15,true,.c (.v (.int .i64 r.l.length))),(16,true,.c (.v (.int .i64 i.1)))],[(0,.box 57 [.v c.points.val,.v c.segments.val])],i.2.1,1⟩) (fun i=>i.1≤r.l.length∧h.le i.2.1∧WS 3 i.2.1 i.2.2∧(∀ g,i.2.2.a=some ⟨g,0,none⟩→h g=none)∧ptsK c.segments.l a r.l i.1=some i.2.2.l) (fun i=>r.l.length - i.1) (0,h0,s0) ⟨Nat.zero_le _,le0,W0',f0,by rw [e0];rfl⟩ [0] ?_ ?_
 ·simp (maxSteps:=2000000) only [go_sem,yqa,yqb,yqc,yqd,yqe,yqf]
  repeat' first|exact rfl|exact trivial|assumption|decide|refine And.intro ?_ ?_
 rintro ⟨k,hk,s⟩ ⟨hkn,hle,hWS,hfr,hpt⟩
 simp only at hkn hle hWS hfr hpt
 have sok:=hWS.ok (by decide)
 have hlen:=zJ7 hpt
 have hc1:Enc.ok hk c:=Enc.mono hle hc
 have hr1:=hr.mono hle
 repeat' first|refine zie rfl ?_|refine zc4 rfl ?_|refine zc7 ?_|refine zc8 ?_|refine zc5 ?_|refine zc6 ?_|(simp (maxSteps:=2000000) only [go_sem,yqa,yqb,yqc,yqd,yqe,yqf];try rfl)|refine zc3 ?_|(refine And.intro ?_ ?_;focus (intros;simp_all only [yqg,yqh,yqi,and_self,true_and,and_true];done))
 refine zc9 rfl (fun hd=>?_) (fun hd=>?_)
 ·have hlt:=zjH hd
  have hnx:=zJ5 hlt hpt
  have hno:zJS c.segments.l s.l r.l[k]=none→ptsK c.segments.l a r.l r.l.length=none:=fun e=>zJV (k:=k+1) (by rw [hnx,e]) hlt
  repeat' first|refine zie rfl ?_|refine zc4 rfl ?_|refine zc7 ?_|refine zc8 ?_|refine zc5 ?_|refine zc6 ?_|refine zhF (fun _=>zrc _ _ _ _) ?_|(simp (maxSteps:=2000000) only [go_sem,yqa,yqb,yqc,yqd,yqe,yqf,zkR hr1 hlt,hr1.some hlt,hlt,yqj];try rfl)|refine zc3 ?_|(refine And.intro ?_ ?_;focus (intros;simp_all only [yqg,yqh,yqi,and_self,true_and,and_true];done))
  rw [zjz (by omega)]
  obtain ⟨x,hxe⟩:∃ x,r.l[k]=x:=⟨_,rfl⟩
  rw [hxe] at hnx hno ⊢
  refine zc9 rfl (fun hx=>?_) (fun hx=>?_)
  ·have hin:¬ (0≤x∧x < c.segments.l.length):=by
    rw [Bool.not_eq_true',Bool.and_eq_false_iff,decide_eq_false_iff_not,decide_eq_false_iff_not] at hx;omega
   repeat' first|refine zie rfl ?_|refine zc4 rfl ?_|refine zc7 ?_|refine zc8 ?_|refine zc5 ?_|refine zc6 ?_|(simp (maxSteps:=2000000) only [go_sem,yqa,yqb,yqc,yqd,yqe,yqf];try rfl)|refine zc3 ?_|(refine And.intro ?_ ?_;focus (intros;simp_all only [yqg,yqh,yqi,and_self,true_and,and_true];done))
   rw [hno (by rw [zJS,if_neg hin])]
   exact ⟨⟨none,0,[]⟩,rfl,rfl,zmy⟩
  have hin:0≤x∧x < c.segments.l.length:=by
   rw [Bool.not_eq_false',yqi,decide_eq_true_eq,decide_eq_true_eq] at hx;omega
  obtain ⟨hx0,hx1⟩:=hin
  have hsi:x.toNat < c.segments.l.length:=by omega
  have hk1:k < s.l.length:=by omega
  have hk1i:(k:Int) < s.l.length:=by omega
  have hkk:k < k+1:=Nat.lt_succ_self k
  have hkki:(k:Int) < ((k+1:Nat):Int):=by omega
  have hw1:IntKind.i64.wrap (((k+1:Nat):Int) - 1)=(k:Int):=by rw [zjz (by omega)];omega
  obtain ⟨y,hye⟩:∃ y,zJR c.segments.l[x.toNat] s.l[k]=y:=⟨_,rfl⟩
  have hst:zJS c.segments.l s.l x=if y < 0∨y ∈ s.l then none else some (s.l ++ [y]):=by
   rw [zJS,if_pos ⟨hx0,hx1⟩,zKa hlen,gget hsi,List.getD_eq_getElem?_getD,List.getElem?_eq_getElem hk1,Option.getD_some,hye]
  have hy64:I64 y:=by
   rw [← hye];unfold zJR
   have o1:=hc1.2.el hsi
   split
   ·exact o1.2.1
   ·split
    ·exact o1.1
    ·unfold I64;omega
  repeat' first|refine zie rfl ?_|refine zc4 rfl ?_|refine zc7 ?_|refine zc8 ?_|refine zc5 ?_|refine zc6 ?_|(simp (maxSteps:=2000000) only [go_sem,yqa,yqb,yqc,yqd,yqe,yqf];try rfl)|refine zc3 ?_|(refine And.intro ?_ ?_;focus (intros;simp_all only [yqg,yqh,yqi,and_self,true_and,and_true];done))
  refine zte rfl ?_
  refine zs7 [0,2,5,6,1,7,3,8,4,9,10] rfl (by kernel_rfl) ?_
  simp (maxSteps:=2000000) only [go_sem,yqa,yqb,yqc,yqd,yqe,yqf,zld hc1.2 hsi,hc1.2.some hsi,zyB hc1.2 hsi,hsi,hx0,hx1,hlen,hw1,zkR sok hk1,sok.some hk1,hk1,hk1i,hkk,hkki,yqj,yqk,implies_true,true_and,and_true,and_self]
  refine ztc 11 0 [] rfl (by kernel_rfl) (by kernel_rfl) (by kernel_rfl) rfl ?_
  simp (maxSteps:=2000000) only [go_sem,yqa,yqb,yqc,yqd,yqe,yqf,zld hc1.2 hsi,hc1.2.some hsi,zyB hc1.2 hsi,hsi,hx0,hx1,hlen,hw1,zkR sok hk1,sok.some hk1,hk1,hk1i,hkk,hkki,yqj,yqk,implies_true,true_and,and_true,and_self]
  refine zhF (fun _=>zJ0 _ _ _) ?_
  simp (maxSteps:=2000000) only [go_sem,yqa,yqb,yqc,yqd,yqe,yqf,zld hc1.2 hsi,hc1.2.some hsi,zyB hc1.2 hsi,hsi,hx0,hx1,hlen,hw1,zkR sok hk1,sok.some hk1,hk1,hk1i,hkk,hkki,yqj,yqk,implies_true,true_and,and_true,and_self]
  refine zs7 [12] rfl (by kernel_rfl) ?_
  simp (maxSteps:=2000000) only [go_sem,yqa,yqb,yqc,yqd,yqe,yqf,zld hc1.2 hsi,hc1.2.some hsi,zyB hc1.2 hsi,hsi,hx0,hx1,hlen,hw1,zkR sok hk1,sok.some hk1,hk1,hk1i,hkk,hkki,yqj,yqk,implies_true,true_and,and_true,and_self]
  refine ztd (by kernel_rfl) ?_
  repeat' first|refine zie rfl ?_|refine zc4 rfl ?_|refine zc7 ?_|refine zc8 ?_|refine zc5 ?_|refine zc6 ?_|(simp (maxSteps:=2000000) only [go_sem,yqa,yqb,yqc,yqd,yqe,yqf];try rfl)|refine zc3 ?_|(refine And.intro ?_ ?_;focus (intros;simp_all only [yqg,yqh,yqi,and_self,true_and,and_true];done))
  rw [hye]
  repeat' first|refine zie rfl ?_|refine zc4 rfl ?_|refine zc7 ?_|refine zc8 ?_|refine zc5 ?_|refine zc6 ?_|refine zhF (fun _=>zKf s y _ sok) ?_|(simp (maxSteps:=2000000) only [go_sem,yqa,yqb,yqc,yqd,yqe,yqf];try rfl)|refine zc3 ?_|(refine And.intro ?_ ?_;focus (intros;simp_all only [yqg,yqh,yqi,and_self,true_and,and_true];done))
  refine zc9 rfl (fun hz=>?_) (fun hz=>?_)
  ·repeat' first|refine zie rfl ?_|refine zc4 rfl ?_|refine zc7 ?_|refine zc8 ?_|refine zc5 ?_|refine zc6 ?_|(simp (maxSteps:=2000000) only [go_sem,yqa,yqb,yqc,yqd,yqe,yqf];try rfl)|refine zc3 ?_|(refine And.intro ?_ ?_;focus (intros;simp_all only [yqg,yqh,yqi,and_self,true_and,and_true];done))
   rw [hno (by rw [hst,if_pos];exact (Bool.or_eq_true_iff.1 hz).imp of_decide_eq_true of_decide_eq_true)]
   exact ⟨⟨none,0,[]⟩,rfl,rfl,zmy⟩
  have hz:¬ (y < 0∨y ∈ s.l):=by
   exact not_or.2 ⟨of_decide_eq_false (Bool.or_eq_false_iff.1 hz).1,of_decide_eq_false (Bool.or_eq_false_iff.1 hz).2⟩
  rw [if_neg hz] at hst
  refine zc5 ?_
  simp (maxSteps:=2000000) only [go_sem,yqa,yqb,yqc,yqd,yqe,yqf]
  first|refine zsB [0,0,0,3,0] rfl ?_|refine zsA [0,0,0,3,0] rfl ?_|(refine zc3 ?_;first|refine zsB [0,0,0,3,0] rfl ?_|refine zsA [0,0,0,3,0] rfl ?_)
  simp (maxSteps:=2000000) only [go_sem,yqa,yqb,yqc,yqd,yqe,yqf]
  refine zuc (s:=s) rfl hWS.1 (fun g hg=>.inl (hfr g hg)) ?_
  simp (maxSteps:=2000000) only [go_sem,yqa,yqb,yqc,yqd,yqe,yqf]
  refine ⟨rfl,by simp only [maxLen];omega,by omega,fun ad cap h2 P=>?_⟩
  have P':Pub (zub hk s) 3 (Enc.size Int) (s.l ++ [y]).length ((s.l ++ [y]).flatMap Enc.enc) ad cap h2:=by
   rw [List.length_append,List.flatMap_append];exact P
  obtain ⟨W2,hd2,fr2,kp2⟩:=hWS.push (x:=y) hy64 P'
  rw [show Value.slice ad (s.l.length+1) cap=(Sl.mk ad cap (s.l ++ [y])).val from by simp only [Sl.val,List.length_append,List.length_singleton]]
  have hle2:h.le h2:=fun b o hb=>kp2 b o (hle b o hb) fun e=>by rw [hfr b e] at hb;cases hb
  repeat' first|refine zie rfl ?_|refine zc4 rfl ?_|refine zc7 ?_|refine zc8 ?_|refine zc5 ?_|refine zc6 ?_|(simp (maxSteps:=2000000) only [go_sem,yqa,yqb,yqc,yqd,yqe,yqf];try rfl)|refine zc3 ?_|(refine And.intro ?_ ?_;focus (intros;simp_all only [yqg,yqh,yqi,and_self,true_and,and_true];done))
  refine ⟨(k+1,h2,⟨ad,cap,s.l ++ [y]⟩),[0],⟨hlt,hle2,W2,fun g hg=>?_,by rw [hnx,hst]⟩,by simp only;omega,?_⟩
  ·rcases fr2 g hg with e|e
   ·exact zmE hle e
   ·exact hfr g e
  simp (maxSteps:=2000000) only [go_sem,yqa,yqb,yqc,yqd,yqe,yqf]
  refine ⟨zjB (zjA hlt (by omega)),hle2,?_⟩
  repeat' first|exact rfl|exact trivial|assumption|decide|refine And.intro ?_ ?_
 ·have hge:=zjI hd
  obtain rfl:k=r.l.length:=by omega
  repeat' first|refine zie rfl ?_|refine zc4 rfl ?_|refine zc7 ?_|refine zc8 ?_|refine zc5 ?_|refine zc6 ?_|(simp (maxSteps:=2000000) only [go_sem,yqa,yqb,yqc,yqd,yqe,yqf];try rfl)|refine zc3 ?_|(refine And.intro ?_ ?_;focus (intros;simp_all only [yqg,yqh,yqi,and_self,true_and,and_true];done))
  rw [hpt]
  exact ⟨s,rfl,rfl,sok⟩
end Go.Proofs.YtjiggadgmmjnhaaGreat
namespace Go.Proofs.YtjiggadgmmjnhaaGreat
open Go Go.SL
set_option maxHeartbeats 1000000
theorem zKh {c:PChart} {a:Int} {r:List Int} (h:¬ (0≤a∧a < c.points.length)):zJT c a r=none:=by rw [zJT,if_neg h]
theorem zKi {c:PChart} {a:Int} {r:List Int} (h:0≤a∧a < c.points.length):zJT c a r=ptsK c.segments a r r.length:=by rw [zJT,if_pos h]
theorem zKj (c:DChart) (a:Int) (r:Sl Int) (h:Hp) (hc:Enc.ok h c) (hr:r.Ok h) (hC:zrC (Con.con c)=true) (hz:r.l.length≤1048576):Ct Tryz.prog 212 [c.v,.int .i64 a,r.val] h fun v h'=>∃ s:Sl Int,v=.tuple #[s.val,.bool (zJT (Con.con c) a r.l).isSome]∧s.l=(zJT (Con.con c) a r.l).getD []∧s.Ok h':=by
 have hl:=hr.max
 obtain ⟨h8,hsp⟩:=zJW hC
 have hgm:=hc.2.max
 have hsl:(Con.con c).segments=c.segments.l:=zr8 c
 have hpl:(Con.con c).points=c.points.l:=zJY c
 refine zdn (fun A W=>by simp) Tryz.func212 rfl rfl (by simp) fun W0=>?_
 repeat' first|refine zie rfl ?_|refine zc4 rfl ?_|refine zc7 ?_|refine zc8 ?_|refine zc5 ?_|refine zc6 ?_|refine zhF (fun _=>zrf _ _ _) ?_|(simp (maxSteps:=2000000) only [go_sem,yqa,yqb,yqc,yqd,yqe,yqf];try rfl)|refine zc3 ?_|(refine And.intro ?_ ?_;focus (intros;simp_all only [yqg,yqh,yqi,and_self,true_and,and_true];done))
 refine zc9 rfl (fun hx=>?_) (fun hx=>?_)
 ·have hin:¬ (0≤a∧a < (Con.con c).points.length):=by
   rw [hpl];rw [Bool.not_eq_true',Bool.and_eq_false_iff,decide_eq_false_iff_not,decide_eq_false_iff_not] at hx;omega
  repeat' first|refine zie rfl ?_|refine zc4 rfl ?_|refine zc7 ?_|refine zc8 ?_|refine zc5 ?_|refine zc6 ?_|(simp (maxSteps:=2000000) only [go_sem,yqa,yqb,yqc,yqd,yqe,yqf];try rfl)|refine zc3 ?_|(refine And.intro ?_ ?_;focus (intros;simp_all only [yqg,yqh,yqi,and_self,true_and,and_true];done))
  rw [zKh hin]
  exact ⟨⟨none,0,[]⟩,rfl,rfl,zmy⟩
 have hin:0≤a∧a < (Con.con c).points.length:=by
  rw [hpl];rw [Bool.not_eq_false',yqi,decide_eq_true_eq,decide_eq_true_eq] at hx;omega
 obtain ⟨ha0,ha1⟩:=hin
 have ha8:a < ((8:Nat):Int):=by omega
 have ha7:a.toNat≤7:=by omega
 rw [zKi ⟨ha0,ha1⟩,hsl]
 repeat' first|refine zie rfl ?_|refine zc4 rfl ?_|refine zc7 ?_|refine zc8 ?_|refine zc5 ?_|refine zc6 ?_|(simp (maxSteps:=2000000) only [go_sem,yqa,yqb,yqc,yqd,yqe,yqf,ha0,ha8,ha7,Nat.zero_add,Nat.mul_one,implies_true,true_and];try rfl)|refine zc3 ?_|(refine And.intro ?_ ?_;focus (intros;simp_all only [yqg,yqh,yqi,and_self,true_and,and_true];done))
 refine zma (ι:=Nat × List Int) (fun i=>⟨[(1,true,.c (.v (.int .i64 (i.2.getLast?.getD 0)))),(3,true,.c (.p 0 0)),(6,true,.c (.v (.slice none 0 0))),(7,true,.c (.v (.bool false))),(8,true,.c (.p 1 0)),(9,true,.c (.s 2)),(22,true,.c (.v r.val)),(23,true,.c (.v (.int .i64 r.l.length))),(24,true,.c (.v (.int .i64 i.1)))],[(0,.box 57 [.v c.points.val,.v c.segments.val]),(1,.box 282 (metC i.2)),(2,.row 3 1 i.2.length (i.2.flatMap Enc.enc))],h,3⟩) (fun i=>i.1≤r.l.length∧ptsK c.segments.l a r.l i.1=some i.2) (fun i=>r.l.length - i.1) (0,[a]) ⟨Nat.zero_le _,rfl⟩ [0,1,2] ?_ ?_
 ·simp (maxSteps:=2000000) only [go_sem,yqa,yqb,yqc,yqd,yqe,yqf]
  refine ⟨⟨rfl,rfl⟩,congrArg some (congrArg _ (zKd (l:=[]) ⟨ha0,by omega⟩)),?_⟩
  repeat' first|exact rfl|exact trivial|assumption|decide|refine And.intro ?_ ?_
 rintro ⟨k,l⟩ ⟨hkn,hpt⟩
 simp only at hkn hpt
 have hlen:=zJ7 hpt
 have hpi:=zJ9 hC (a:=a) ⟨ha0,ha1⟩ (r:=r.l) (k:=k) (pts:=l) (by rw [hsl];exact hpt)
 repeat' first|refine zie rfl ?_|refine zc4 rfl ?_|refine zc7 ?_|refine zc8 ?_|refine zc5 ?_|refine zc6 ?_|(simp (maxSteps:=2000000) only [go_sem,yqa,yqb,yqc,yqd,yqe,yqf];try rfl)|refine zc3 ?_|(refine And.intro ?_ ?_;focus (intros;simp_all only [yqg,yqh,yqi,and_self,true_and,and_true];done))
 refine zc9 rfl (fun hd=>?_) (fun hd=>?_)
 ·have hlt:=zjH hd
  have hnx:=zJ5 hlt hpt
  have hno:zJS c.segments.l l r.l[k]=none→ptsK c.segments.l a r.l r.l.length=none:=fun e=>zJV (k:=k+1) (by rw [hnx,e]) hlt
  repeat' first|refine zie rfl ?_|refine zc4 rfl ?_|refine zc7 ?_|refine zc8 ?_|refine zc5 ?_|refine zc6 ?_|refine zhF (fun _=>zrf _ _ _) ?_|(simp (maxSteps:=2000000) only [go_sem,yqa,yqb,yqc,yqd,yqe,yqf,zkR hr hlt,hr.some hlt,hlt,yqj];try rfl)|refine zc3 ?_|(refine And.intro ?_ ?_;focus (intros;simp_all only [yqg,yqh,yqi,and_self,true_and,and_true];done))
  obtain ⟨x,hxe⟩:∃ x,r.l[k]=x:=⟨_,rfl⟩
  rw [hxe] at hnx hno ⊢
  refine zc9 rfl (fun hx=>?_) (fun hx=>?_)
  ·have hin:¬ (0≤x∧x < c.segments.l.length):=by
    rw [Bool.not_eq_true',Bool.and_eq_false_iff,decide_eq_false_iff_not,decide_eq_false_iff_not] at hx;omega
   repeat' first|refine zie rfl ?_|refine zc4 rfl ?_|refine zc7 ?_|refine zc8 ?_|refine zc5 ?_|refine zc6 ?_|(simp (maxSteps:=2000000) only [go_sem,yqa,yqb,yqc,yqd,yqe,yqf];try rfl)|refine zc3 ?_|(refine And.intro ?_ ?_;focus (intros;simp_all only [yqg,yqh,yqi,and_self,true_and,and_true];done))
   rw [hno (by rw [zJS,if_neg hin])]
   exact ⟨⟨none,0,[]⟩,rfl,rfl,zmy⟩
  have hin:0≤x∧x < c.segments.l.length:=by
   rw [Bool.not_eq_false',yqi,decide_eq_true_eq,decide_eq_true_eq] at hx;omega
  obtain ⟨hx0,hx1⟩:=hin
  have hsi:x.toNat < c.segments.l.length:=by omega
  obtain ⟨y,hye⟩:∃ y,zJR c.segments.l[x.toNat] (l.getLast?.getD 0)=y:=⟨_,rfl⟩
  have hst:zJS c.segments.l l x=if y < 0∨y ∈ l then none else some (l ++ [y]):=by
   rw [zJS,if_pos ⟨hx0,hx1⟩,gget hsi,hye]
  have hy8:y < ((8:Nat):Int):=by
   have:=(zJX hC (i:=x.toNat) (by rw [hsl];exact hsi) (l.getLast?.getD 0)).1
   rw [hsl,gget hsi,hye] at this
   omega
  repeat' first|refine zie rfl ?_|refine zc4 rfl ?_|refine zc7 ?_|refine zc8 ?_|refine zc5 ?_|refine zc6 ?_|refine zhF (fun _=>zJZ c.segments.l[x.toNat] (l.getLast?.getD 0) _) ?_|(simp (maxSteps:=2000000) only [go_sem,yqa,yqb,yqc,yqd,yqe,yqf,zld hc.2 hsi,hc.2.some hsi,zyB hc.2 hsi,hsi,hx0,hx1,yqj,yqk,implies_true,true_and,and_true,and_self];try rfl)|refine zc3 ?_|(refine And.intro ?_ ?_;focus (intros;simp_all only [yqg,yqh,yqi,and_self,true_and,and_true];done))
  rw [hye]
  by_cases hy:y < 0
  ·repeat' first|refine zie rfl ?_|refine zc4 rfl ?_|refine zc7 ?_|refine zc8 ?_|refine zc5 ?_|refine zc6 ?_|(simp (maxSteps:=2000000) only [go_sem,yqa,yqb,yqc,yqd,yqe,yqf,eq_true hy,reduceCtorEq,decide_true,decide_false,Bool.not_true,Bool.not_false,Bool.true_or,Bool.false_or,Bool.false_eq_true,false_implies,implies_true,true_and];try rfl)|refine zc3 ?_|(refine And.intro ?_ ?_;focus (intros;simp_all only [yqg,yqh,yqi,and_self,true_and,and_true];done))
   refine zc9 rfl (fun hz=>?_) (fun hz=>?_)
   case refine_2=>cases hz
   repeat' first|refine zie rfl ?_|refine zc4 rfl ?_|refine zc7 ?_|refine zc8 ?_|refine zc5 ?_|refine zc6 ?_|(simp (maxSteps:=2000000) only [go_sem,yqa,yqb,yqc,yqd,yqe,yqf];try rfl)|refine zc3 ?_|(refine And.intro ?_ ?_;focus (intros;simp_all only [yqg,yqh,yqi,and_self,true_and,and_true];done))
   rw [hno (by rw [hst,if_pos (.inl hy)])]
   exact ⟨⟨none,0,[]⟩,rfl,rfl,zmy⟩
  have hy0:0≤y:=by omega
  have hy7:y.toNat≤7:=by omega
  have hy9:y.toNat < 8:=by omega
  have hgt:=zKe (l:=l) (x:=y) ⟨hy0,by omega⟩
  have hst2:=zKd (l:=l) (x:=y) ⟨hy0,by omega⟩
  repeat' first|refine zie rfl ?_|refine zc4 rfl ?_|refine zc7 ?_|refine zc8 ?_|refine zc5 ?_|refine zc6 ?_|(simp (maxSteps:=2000000) only [go_sem,yqa,yqb,yqc,yqd,yqe,yqf,eq_false hy,reduceCtorEq,hy0,hy8,hy7,hy9,hgt,zKc,Nat.zero_add,Nat.mul_one,decide_true,decide_false,Bool.not_true,Bool.not_false,Bool.true_or,Bool.false_or,Bool.false_eq_true,false_implies,implies_true,true_and];try rfl)|refine zc3 ?_|(refine And.intro ?_ ?_;focus (intros;simp_all only [yqg,yqh,yqi,and_self,true_and,and_true];done))
  refine zc9 rfl (fun hz=>?_) (fun hz=>?_)
  ·have hz:y ∈ l:=of_decide_eq_true hz
   repeat' first|refine zie rfl ?_|refine zc4 rfl ?_|refine zc7 ?_|refine zc8 ?_|refine zc5 ?_|refine zc6 ?_|(simp (maxSteps:=2000000) only [go_sem,yqa,yqb,yqc,yqd,yqe,yqf];try rfl)|refine zc3 ?_|(refine And.intro ?_ ?_;focus (intros;simp_all only [yqg,yqh,yqi,and_self,true_and,and_true];done))
   rw [hno (by rw [hst,if_pos (.inr hz)])]
   exact ⟨⟨none,0,[]⟩,rfl,rfl,zmy⟩
  have hz:¬ (y < 0∨y ∈ l):=not_or.2 ⟨hy,of_decide_eq_false hz⟩
  rw [if_neg hz] at hst
  repeat' first|refine zie rfl ?_|refine zc4 rfl ?_|refine zc7 ?_|refine zc8 ?_|refine zc5 ?_|refine zc6 ?_|(simp (maxSteps:=2000000) only [go_sem,yqa,yqb,yqc,yqd,yqe,yqf,hy0,hy8,hy7,hy9,hst2,zKc,Nat.zero_add,Nat.mul_one,implies_true,true_and];try rfl)|refine zc3 ?_|(refine And.intro ?_ ?_;focus (intros;simp_all only [yqg,yqh,yqi,and_self,true_and,and_true];done))
  refine ⟨by simp only [maxLen];omega,by omega,?_⟩
  repeat' first|refine zie rfl ?_|refine zc4 rfl ?_|refine zc7 ?_|refine zc8 ?_|refine zc5 ?_|refine zc6 ?_|(simp (maxSteps:=2000000) only [go_sem,yqa,yqb,yqc,yqd,yqe,yqf];try rfl)|refine zc3 ?_|(refine And.intro ?_ ?_;focus (intros;simp_all only [yqg,yqh,yqi,and_self,true_and,and_true];done))
  refine ⟨(k+1,l ++ [y]),[0,1,4],⟨hlt,by rw [hnx,hst]⟩,by simp only;omega,?_⟩
  simp (maxSteps:=2000000) only [go_sem,yqa,yqb,yqc,yqd,yqe,yqf]
  simp only [List.flatMap_append,List.length_append,List.getLast?_concat,Option.getD_some]
  repeat' first|exact zjB (zjA hlt (by omega))|exact rfl|exact trivial|assumption|decide|refine And.intro ?_ ?_
 ·have hge:=zjI hd
  obtain rfl:k=r.l.length:=by omega
  refine zc6 ?_
  simp (maxSteps:=2000000) only [go_sem,yqa,yqb,yqc,yqd,yqe,yqf]
  refine zJQ 2 l rfl rfl rfl rfl fun s h' e1 R f1 l1 k1=>?_
  repeat' first|refine zie rfl ?_|refine zc4 rfl ?_|refine zc7 ?_|refine zc8 ?_|refine zc5 ?_|refine zc6 ?_|(simp (maxSteps:=2000000) only [go_sem,yqa,yqb,yqc,yqd,yqe,yqf];try rfl)|refine zc3 ?_|(refine And.intro ?_ ?_;focus (intros;simp_all only [yqg,yqh,yqi,and_self,true_and,and_true];done))
  rw [hpt]
  refine ⟨s,rfl,e1,R.ok (by decide) fun x hx=>?_⟩
  have:=hpi x (by rw [← e1];exact hx)
  show I64 _;unfold I64;omega
end Go.Proofs.YtjiggadgmmjnhaaGreat
namespace Go.Proofs.YtjiggadgmmjnhaaGreat
open Go Go.SL
set_option maxHeartbeats 1000000
def zKk (c:PChart) (a:Int) (r:List Int):Bool:=(zJU c a r).isSome
theorem zKl {c:PChart} {a:Int} {r:List Int} (h:zrC c=false):zJU c a r=none:=by rw [zJU,if_neg (by rw [h];exact Bool.false_ne_true)]
theorem zKm {c:PChart} {a:Int} {r:List Int} (h:zrC c=true):zJU c a r=zJT c a r:=by rw [zJU,if_pos h]
theorem zKn {α:Type} {o:Option α} (h:o=none):o.isSome=false:=by rw [h];rfl
theorem zKo {c:PChart} {a:Int} {r:List Int} (h:zKk c a r=true):zrC c=true∧(0≤a∧a < c.points.length)∧∃ l,zJU c a r=some l∧ptsK c.segments a r r.length=some l∧l.length=r.length+1∧∀ x ∈ l,0≤x∧x < c.points.length:=by
 cases hC:zrC c with
 | false=>rw [zKk,zKl hC] at h;cases h
 | true =>
  obtain ⟨l,hl⟩:=Option.isSome_iff_exists.1 h
  have h2:=hl
  rw [zKm hC,zJT] at h2
  split at h2
  ·rename_i ha
   exact ⟨rfl,ha,l,hl,h2,zJ7 h2,zJ9 hC ha h2⟩
  ·cases h2
theorem zKp {g:List DSegment} {a:Int} {r:List Int}:∀ {k:Nat} {l:List Int},ptsK g a r k=some l→k≤r.length→∀ i (hi:i < r.length),i < k→0≤r[i]∧r[i] < g.length
 | 0,l,h,hk,i,hi,hik=>absurd hik (Nat.not_lt_zero _)
 | k+1,l,h,hk,i,hi,hik=>by
  obtain ⟨p,h1,h2⟩:=zJ6 h
  have h0:=(zJ4 h2).1
  rcases Nat.lt_or_ge i k with h3|h3
  ·exact zKp h1 (by omega) i hi h3
  ·obtain rfl:i=k:=by omega
   rwa [List.getD_eq_getElem?_getD,List.getElem?_eq_getElem hi] at h0
theorem zKq (c:DChart) (a:Int) (r:Sl Int) (h:Hp) (hc:Enc.ok h c) (ha:I64 a) (hr:r.Ok h) (hz:r.l.length≤1048576):Ct Tryz.prog 156 [c.v,.int .i64 a,r.val] h fun v h'=>v=.bool (zKk (Con.con c) a r.l)∧h'=h:=by
 refine Ct.forget ?_
 have hgm:=hc.1.max
 have hpl:(Con.con c).points=c.points.l:=zJY c
 refine zdn (fun A W=>by simp) Tryz.func156 rfl rfl (by simp) fun W0=>?_
 repeat' first|refine zie rfl ?_|refine zc4 rfl ?_|refine zc7 ?_|refine zc8 ?_|refine zc5 ?_|refine zc6 ?_|refine zhF (fun _=>zrK c _ hc) ?_|refine zhF (fun _=>zrc _ _ _ _) ?_|(simp (maxSteps:=2000000) only [go_sem,yqa,yqb,yqc,yqd,yqe,yqf];try rfl)|refine zc3 ?_|(refine And.intro ?_ ?_;focus (intros;simp_all only [yqg,yqh,yqi,and_self,true_and,and_true];done))
 rw [zjz (by omega)]
 refine zc9 rfl (fun hx=>?_) (fun hx=>?_)
 ·repeat' first|refine zie rfl ?_|refine zc4 rfl ?_|refine zc7 ?_|refine zc8 ?_|refine zc5 ?_|refine zc6 ?_|(simp (maxSteps:=2000000) only [go_sem,yqa,yqb,yqc,yqd,yqe,yqf];try rfl)|refine zc3 ?_|(refine And.intro ?_ ?_;focus (intros;simp_all only [yqg,yqh,yqi,and_self,true_and,and_true];done))
  rw [zKk,zKn]
  cases hC:zrC (Con.con c) with
  | false=>exact zKl hC
  | true =>
   rw [zKm hC,zKh]
   rw [hpl]
   rw [hC,Bool.not_true,Bool.false_or,Bool.not_eq_true',Bool.and_eq_false_iff,decide_eq_false_iff_not,decide_eq_false_iff_not] at hx
   omega
 rw [yqg,Bool.not_eq_false',Bool.not_eq_false',yqi,decide_eq_true_eq,decide_eq_true_eq] at hx
 obtain ⟨hC,hx0,hx1⟩:=hx
 repeat' first|refine zie rfl ?_|refine zc4 rfl ?_|refine zc7 ?_|refine zc8 ?_|refine zc5 ?_|refine zc6 ?_|(simp (maxSteps:=2000000) only [go_sem,yqa,yqb,yqc,yqd,yqe,yqf];try rfl)|refine zc3 ?_|(refine And.intro ?_ ?_;focus (intros;simp_all only [yqg,yqh,yqi,and_self,true_and,and_true];done))
 refine zkr (zKg c a r _ hc hr ha hz) rfl ?_
 rintro v h1 le1 ⟨s,rfl,e1,ok1⟩
 repeat' first|refine zie rfl ?_|refine zc4 rfl ?_|refine zc7 ?_|refine zc8 ?_|refine zc5 ?_|refine zc6 ?_|(simp (maxSteps:=2000000) only [go_sem,yqa,yqb,yqc,yqd,yqe,yqf];try rfl)|refine zc3 ?_|(refine And.intro ?_ ?_;focus (intros;simp_all only [yqg,yqh,yqi,and_self,true_and,and_true];done))
 rw [zKk,zKm hC,zKi (by rw [hpl];omega),zr8]
theorem zKr (c:DChart) (a:Int) (r:Sl Int) (h:Hp) (hc:Enc.ok h c) (ha:I64 a) (hr:r.Ok h) (hz:r.l.length≤1048576):Ct Tryz.prog 214 [c.v,.int .i64 a,r.val] h fun v h'=>v=.bool (zKk (Con.con c) a r.l)∧h'=h:=by
 refine Ct.forget ?_
 refine zdn (fun A W=>by simp) Tryz.func214 rfl rfl (by simp) fun W0=>?_
 repeat' first|refine zie rfl ?_|refine zc4 rfl ?_|refine zc7 ?_|refine zc8 ?_|refine zc5 ?_|refine zc6 ?_|refine zhF (fun _=>zrL c _ hc) ?_|(simp (maxSteps:=2000000) only [go_sem,yqa,yqb,yqc,yqd,yqe,yqf];try rfl)|refine zc3 ?_|(refine And.intro ?_ ?_;focus (intros;simp_all only [yqg,yqh,yqi,and_self,true_and,and_true];done))
 refine zc9 rfl (fun hx=>?_) (fun hx=>?_)
 ·rw [Bool.not_eq_true'] at hx
  repeat' first|refine zie rfl ?_|refine zc4 rfl ?_|refine zc7 ?_|refine zc8 ?_|refine zc5 ?_|refine zc6 ?_|(simp (maxSteps:=2000000) only [go_sem,yqa,yqb,yqc,yqd,yqe,yqf];try rfl)|refine zc3 ?_|(refine And.intro ?_ ?_;focus (intros;simp_all only [yqg,yqh,yqi,and_self,true_and,and_true];done))
  rw [zKk,zKl hx];rfl
 rw [Bool.not_eq_false'] at hx
 repeat' first|refine zie rfl ?_|refine zc4 rfl ?_|refine zc7 ?_|refine zc8 ?_|refine zc5 ?_|refine zc6 ?_|(simp (maxSteps:=2000000) only [go_sem,yqa,yqb,yqc,yqd,yqe,yqf];try rfl)|refine zc3 ?_|(refine And.intro ?_ ?_;focus (intros;simp_all only [yqg,yqh,yqi,and_self,true_and,and_true];done))
 refine zkr (zKj c a r _ hc hr hx hz) rfl ?_
 rintro v h1 le1 ⟨s,rfl,e1,ok1⟩
 repeat' first|refine zie rfl ?_|refine zc4 rfl ?_|refine zc7 ?_|refine zc8 ?_|refine zc5 ?_|refine zc6 ?_|(simp (maxSteps:=2000000) only [go_sem,yqa,yqb,yqc,yqd,yqe,yqf];try rfl)|refine zc3 ?_|(refine And.intro ?_ ?_;focus (intros;simp_all only [yqg,yqh,yqi,and_self,true_and,and_true];done))
 rw [zKk,zKm hx]
theorem zKs (c:DChart) (a:Int) (r:Sl Int) (h:Hp) (hc:Enc.ok h c) (ha:I64 a) (hr:r.Ok h) (hz:r.l.length≤1048576):Ct Tryz.prog 104 [c.v,.int .i64 a,r.val] h fun v h'=>∃ s:Sl Int,v=s.val∧s.l=(zJU (Con.con c) a r.l).getD []∧s.Ok h':=by
 refine zdn (fun A W=>by simp) Tryz.func104 rfl rfl (by simp) fun W0=>?_
 repeat' first|refine zie rfl ?_|refine zc4 rfl ?_|refine zc7 ?_|refine zc8 ?_|refine zc5 ?_|refine zc6 ?_|refine zhF (fun _=>zKq c a r _ hc ha hr hz) ?_|(simp (maxSteps:=2000000) only [go_sem,yqa,yqb,yqc,yqd,yqe,yqf];try rfl)|refine zc3 ?_|(refine And.intro ?_ ?_;focus (intros;simp_all only [yqg,yqh,yqi,and_self,true_and,and_true];done))
 refine zc9 rfl (fun hx=>?_) (fun hx=>?_)
 ·rw [Bool.not_eq_true',zKk,Option.isSome_eq_false_iff,Option.isNone_iff_eq_none] at hx
  repeat' first|refine zie rfl ?_|refine zc4 rfl ?_|refine zc7 ?_|refine zc8 ?_|refine zc5 ?_|refine zc6 ?_|(simp (maxSteps:=2000000) only [go_sem,yqa,yqb,yqc,yqd,yqe,yqf];try rfl)|refine zc3 ?_|(refine And.intro ?_ ?_;focus (intros;simp_all only [yqg,yqh,yqi,and_self,true_and,and_true];done))
  rw [hx]
  exact ⟨⟨none,0,[]⟩,rfl,rfl,zmy⟩
 rw [Bool.not_eq_false'] at hx
 obtain ⟨hC,hin,l,hl,hk,_⟩:=zKo hx
 repeat' first|refine zie rfl ?_|refine zc4 rfl ?_|refine zc7 ?_|refine zc8 ?_|refine zc5 ?_|refine zc6 ?_|(simp (maxSteps:=2000000) only [go_sem,yqa,yqb,yqc,yqd,yqe,yqf];try rfl)|refine zc3 ?_|(refine And.intro ?_ ?_;focus (intros;simp_all only [yqg,yqh,yqi,and_self,true_and,and_true];done))
 refine zkr (zKg c a r _ hc hr ha hz) rfl ?_
 rintro v h1 le1 ⟨s,rfl,e1,ok1⟩
 repeat' first|refine zie rfl ?_|refine zc4 rfl ?_|refine zc7 ?_|refine zc8 ?_|refine zc5 ?_|refine zc6 ?_|(simp (maxSteps:=2000000) only [go_sem,yqa,yqb,yqc,yqd,yqe,yqf];try rfl)|refine zc3 ?_|(refine And.intro ?_ ?_;focus (intros;simp_all only [yqg,yqh,yqi,and_self,true_and,and_true];done))
 exact ⟨s,rfl,by rw [e1,← zr8,hk,hl],ok1⟩
theorem zKt (c:DChart) (a:Int) (r:Sl Int) (h:Hp) (hc:Enc.ok h c) (ha:I64 a) (hr:r.Ok h) (hz:r.l.length≤1048576):Ct Tryz.prog 160 [c.v,.int .i64 a,r.val] h fun v h'=>∃ s:Sl Int,v=s.val∧s.l=(zJU (Con.con c) a r.l).getD []∧s.Ok h':=by
 refine zdn (fun A W=>by simp) Tryz.func160 rfl rfl (by simp) fun W0=>?_
 repeat' first|refine zie rfl ?_|refine zc4 rfl ?_|refine zc7 ?_|refine zc8 ?_|refine zc5 ?_|refine zc6 ?_|refine zhF (fun _=>zrL c _ hc) ?_|(simp (maxSteps:=2000000) only [go_sem,yqa,yqb,yqc,yqd,yqe,yqf];try rfl)|refine zc3 ?_|(refine And.intro ?_ ?_;focus (intros;simp_all only [yqg,yqh,yqi,and_self,true_and,and_true];done))
 refine zc9 rfl (fun hx=>?_) (fun hx=>?_)
 ·rw [Bool.not_eq_true'] at hx
  repeat' first|refine zie rfl ?_|refine zc4 rfl ?_|refine zc7 ?_|refine zc8 ?_|refine zc5 ?_|refine zc6 ?_|(simp (maxSteps:=2000000) only [go_sem,yqa,yqb,yqc,yqd,yqe,yqf];try rfl)|refine zc3 ?_|(refine And.intro ?_ ?_;focus (intros;simp_all only [yqg,yqh,yqi,and_self,true_and,and_true];done))
  rw [zKl hx]
  exact ⟨⟨none,0,[]⟩,rfl,rfl,zmy⟩
 rw [Bool.not_eq_false'] at hx
 repeat' first|refine zie rfl ?_|refine zc4 rfl ?_|refine zc7 ?_|refine zc8 ?_|refine zc5 ?_|refine zc6 ?_|(simp (maxSteps:=2000000) only [go_sem,yqa,yqb,yqc,yqd,yqe,yqf];try rfl)|refine zc3 ?_|(refine And.intro ?_ ?_;focus (intros;simp_all only [yqg,yqh,yqi,and_self,true_and,and_true];done))
 refine zkr (zKj c a r _ hc hr hx hz) rfl ?_
 rintro v h1 le1 ⟨s,rfl,e1,ok1⟩
 repeat' first|refine zie rfl ?_|refine zc4 rfl ?_|refine zc7 ?_|refine zc8 ?_|refine zc5 ?_|refine zc6 ?_|(simp (maxSteps:=2000000) only [go_sem,yqa,yqb,yqc,yqd,yqe,yqf];try rfl)|refine zc3 ?_|(refine And.intro ?_ ?_;focus (intros;simp_all only [yqg,yqh,yqi,and_self,true_and,and_true];done))
 exact ⟨s,rfl,by rw [e1,zKm hx],ok1⟩
def zKu (g:List DSegment) (acc s:Int):Int:=IntKind.i64.wrap (acc+(g.getD s.toNat dG).minutes)
def rmOk (n:Nat) (r:List Int) (i:Nat):Bool:=decide (0≤r.getD i 0∧r.getD i 0 < n)
def zKv (c:PChart) (r:List Int):Int:=if zrC c=true∧∀ i,i < r.length→rmOk c.segments.length r i=true then r.foldl (zKu c.segments) 0 else -1
theorem zKw {c:PChart} {r:List Int} (h:¬ (zrC c=true∧∀ i,i < r.length→rmOk c.segments.length r i=true)):zKv c r=-1:=by rw [zKv,if_neg h]
theorem iget {l:List Int} {i:Nat} (hi:i < l.length):l.getD i 0=l[i]:=by simp [List.getD_eq_getElem?_getD,hi]
theorem zKx {c:PChart} {r:List Int} (h:¬ zKv c r < 0):zrC c=true∧∀ i,i < r.length→rmOk c.segments.length r i=true:=by
 rw [zKv] at h
 split at h
 ·assumption
 ·omega
theorem zKy (c:DChart) (r:Sl Int) (h:Hp) (hc:Enc.ok h c) (hr:r.Ok h):Ct Tryz.prog 166 [c.v,r.val] h fun v h'=>v=.int .i64 (zKv (Con.con c) r.l)∧h'=h:=by
 have hl:=hr.max
 have hgm:=hc.2.max
 have hsl:(Con.con c).segments=c.segments.l:=zr8 c
 refine zdn (fun A W=>by simp) Tryz.func166 rfl rfl (by simp) fun W0=>?_
 repeat' first|refine zie rfl ?_|refine zc4 rfl ?_|refine zc7 ?_|refine zc8 ?_|refine zc5 ?_|refine zc6 ?_|refine zhF (fun _=>zrK c _ hc) ?_|(simp (maxSteps:=2000000) only [go_sem,yqa,yqb,yqc,yqd,yqe,yqf];try rfl)|refine zc3 ?_|(refine And.intro ?_ ?_;focus (intros;simp_all only [yqg,yqh,yqi,and_self,true_and,and_true];done))
 refine zc9 rfl (fun hx=>?_) (fun hx=>?_)
 ·rw [Bool.not_eq_true'] at hx
  repeat' first|refine zie rfl ?_|refine zc4 rfl ?_|refine zc7 ?_|refine zc8 ?_|refine zc5 ?_|refine zc6 ?_|(simp (maxSteps:=2000000) only [go_sem,yqa,yqb,yqc,yqd,yqe,yqf];try rfl)|refine zc3 ?_|(refine And.intro ?_ ?_;focus (intros;simp_all only [yqg,yqh,yqi,and_self,true_and,and_true];done))
  rw [zKw (fun H=>by rw [hx] at H;cases H.1)]
 rw [Bool.not_eq_false'] at hx
 have hC:=hx
 repeat' first|refine zie rfl ?_|refine zc4 rfl ?_|refine zc7 ?_|refine zc8 ?_|refine zc5 ?_|refine zc6 ?_|(simp (maxSteps:=2000000) only [go_sem,yqa,yqb,yqc,yqd,yqe,yqf];try rfl)|refine zc3 ?_|(refine And.intro ?_ ?_;focus (intros;simp_all only [yqg,yqh,yqi,and_self,true_and,and_true];done))
 refine zde (ι:=Nat) (fun k=>⟨[(2,true,.c (.p 0 0)),(4,true,.c (.v (.int .i64 0))),(5,true,.c (.v (.int .i64 ((r.l.take k).foldl (zKu c.segments.l) 0)))),(11,true,.c (.v r.val)),(12,true,.c (.v (.int .i64 r.l.length))),(13,true,.c (.v (.int .i64 k)))],[(0,.box 57 [.v c.points.val,.v c.segments.val])],h,1⟩) (fun k=>k≤r.l.length∧∀ i,i < k→rmOk c.segments.l.length r.l i=true) (fun k=>r.l.length - k) 0 ⟨Nat.zero_le _,zrH⟩ ?_ ?_
 ·simp (maxSteps:=2000000) only [go_sem,yqa,yqb,yqc,yqd,yqe,yqf]
  first|exact rfl|exact ⟨rfl,rfl⟩|exact ⟨rfl,rfl,rfl⟩|exact ⟨rfl,rfl,rfl,rfl⟩|exact ⟨rfl,rfl,rfl,rfl,rfl⟩
 intro k hk
 repeat' first|refine zie rfl ?_|refine zc4 rfl ?_|refine zc7 ?_|refine zc8 ?_|refine zc5 ?_|refine zc6 ?_|(simp (maxSteps:=2000000) only [go_sem,yqa,yqb,yqc,yqd,yqe,yqf];try rfl)|refine zc3 ?_|(refine And.intro ?_ ?_;focus (intros;simp_all only [yqg,yqh,yqi,and_self,true_and,and_true];done))
 refine zc9 rfl (fun hd=>?_) (fun hd=>?_)
 ·have hlt:=zjH hd
  repeat' first|refine zie rfl ?_|refine zc4 rfl ?_|refine zc7 ?_|refine zc8 ?_|refine zc5 ?_|refine zc6 ?_|refine zhF (fun _=>zrc _ _ _ _) ?_|(simp (maxSteps:=2000000) only [go_sem,yqa,yqb,yqc,yqd,yqe,yqf,zkR hr hlt,hr.some hlt,hlt,yqj];try rfl)|refine zc3 ?_|(refine And.intro ?_ ?_;focus (intros;simp_all only [yqg,yqh,yqi,and_self,true_and,and_true];done))
  rw [zjz (by omega)]
  refine zc9 rfl (fun hx=>?_) (fun hx=>?_)
  ·repeat' first|refine zie rfl ?_|refine zc4 rfl ?_|refine zc7 ?_|refine zc8 ?_|refine zc5 ?_|refine zc6 ?_|(simp (maxSteps:=2000000) only [go_sem,yqa,yqb,yqc,yqd,yqe,yqf];try rfl)|refine zc3 ?_|(refine And.intro ?_ ?_;focus (intros;simp_all only [yqg,yqh,yqi,and_self,true_and,and_true];done))
   rw [zKw (fun H=>by
    have:=H.2 k hlt
    rw [rmOk,iget hlt,hsl,decide_eq_true_eq] at this
    rw [Bool.not_eq_true',Bool.and_eq_false_iff,decide_eq_false_iff_not,decide_eq_false_iff_not] at hx;omega)]
  have hin:0≤r.l[k]∧r.l[k] < c.segments.l.length:=by
   rw [Bool.not_eq_false',yqi,decide_eq_true_eq,decide_eq_true_eq] at hx;omega
  obtain ⟨hx0,hx1⟩:=hin
  have hsi:r.l[k].toNat < c.segments.l.length:=by omega
  repeat' first|refine zie rfl ?_|refine zc4 rfl ?_|refine zc7 ?_|refine zc8 ?_|refine zc5 ?_|refine zc6 ?_|(simp (maxSteps:=2000000) only [go_sem,yqa,yqb,yqc,yqd,yqe,yqf,zyB hc.2 hsi,hc.2.some hsi,hsi,hx0,hx1,implies_true,true_and,and_true,and_self];try rfl)|refine zc3 ?_|(refine And.intro ?_ ?_;focus (intros;simp_all only [yqg,yqh,yqi,and_self,true_and,and_true];done))
  refine ⟨k+1,⟨hlt,zrF hk.2 (by rw [rmOk,iget hlt];exact decide_eq_true ⟨hx0,hx1⟩)⟩,by omega,?_⟩
  rw [zIx hlt]
  refine ⟨?_,zjB (zjA hlt (by omega))⟩
  simp only [zKu,gget hsi]
 ·have hge:=zjI hd
  repeat' first|refine zie rfl ?_|refine zc4 rfl ?_|refine zc7 ?_|refine zc8 ?_|refine zc5 ?_|refine zc6 ?_|(simp (maxSteps:=2000000) only [go_sem,yqa,yqb,yqc,yqd,yqe,yqf];try rfl)|refine zc3 ?_|(refine And.intro ?_ ?_;focus (intros;simp_all only [yqg,yqh,yqi,and_self,true_and,and_true];done))
  rw [zKv,if_pos ⟨hC,fun i hi=>by rw [hsl];exact hk.2 i (by omega)⟩,hsl,List.take_of_length_le hge]
theorem zKz (c:DChart) (r:Sl Int) (h:Hp) (hc:Enc.ok h c) (hr:r.Ok h):Ct Tryz.prog 172 [c.v,r.val] h fun v h'=>v=.int .i64 (zKv (Con.con c) r.l)∧h'=h:=by
 have hl:=hr.max
 have hgm:=hc.2.max
 have hsl:(Con.con c).segments=c.segments.l:=zr8 c
 refine zdn (fun A W=>by simp) Tryz.func172 rfl rfl (by simp) fun W0=>?_
 repeat' first|refine zie rfl ?_|refine zc4 rfl ?_|refine zc7 ?_|refine zc8 ?_|refine zc5 ?_|refine zc6 ?_|refine zhF (fun _=>zrL c _ hc) ?_|(simp (maxSteps:=2000000) only [go_sem,yqa,yqb,yqc,yqd,yqe,yqf];try rfl)|refine zc3 ?_|(refine And.intro ?_ ?_;focus (intros;simp_all only [yqg,yqh,yqi,and_self,true_and,and_true];done))
 refine zc9 rfl (fun hx=>?_) (fun hx=>?_)
 ·rw [Bool.not_eq_true'] at hx
  repeat' first|refine zie rfl ?_|refine zc4 rfl ?_|refine zc7 ?_|refine zc8 ?_|refine zc5 ?_|refine zc6 ?_|(simp (maxSteps:=2000000) only [go_sem,yqa,yqb,yqc,yqd,yqe,yqf];try rfl)|refine zc3 ?_|(refine And.intro ?_ ?_;focus (intros;simp_all only [yqg,yqh,yqi,and_self,true_and,and_true];done))
  rw [zKw (fun H=>by rw [hx] at H;cases H.1)]
 rw [Bool.not_eq_false'] at hx
 have hC:=hx
 repeat' first|refine zie rfl ?_|refine zc4 rfl ?_|refine zc7 ?_|refine zc8 ?_|refine zc5 ?_|refine zc6 ?_|(simp (maxSteps:=2000000) only [go_sem,yqa,yqb,yqc,yqd,yqe,yqf];try rfl)|refine zc3 ?_|(refine And.intro ?_ ?_;focus (intros;simp_all only [yqg,yqh,yqi,and_self,true_and,and_true];done))
 refine zde (ι:=Nat) (fun k=>⟨[(2,true,.c (.p 0 0)),(4,true,.c (.v (.int .i64 0))),(5,true,.c (.v (.int .i64 ((r.l.take k).foldl (zKu c.segments.l) 0)))),(11,true,.c (.v r.val)),(12,true,.c (.v (.int .i64 r.l.length))),(13,true,.c (.v (.int .i64 k)))],[(0,.box 57 [.v c.points.val,.v c.segments.val])],h,1⟩) (fun k=>k≤r.l.length∧∀ i,i < k→rmOk c.segments.l.length r.l i=true) (fun k=>r.l.length - k) 0 ⟨Nat.zero_le _,zrH⟩ ?_ ?_
 ·simp (maxSteps:=2000000) only [go_sem,yqa,yqb,yqc,yqd,yqe,yqf]
  first|exact rfl|exact ⟨rfl,rfl⟩|exact ⟨rfl,rfl,rfl⟩|exact ⟨rfl,rfl,rfl,rfl⟩|exact ⟨rfl,rfl,rfl,rfl,rfl⟩
 intro k hk
 repeat' first|refine zie rfl ?_|refine zc4 rfl ?_|refine zc7 ?_|refine zc8 ?_|refine zc5 ?_|refine zc6 ?_|(simp (maxSteps:=2000000) only [go_sem,yqa,yqb,yqc,yqd,yqe,yqf];try rfl)|refine zc3 ?_|(refine And.intro ?_ ?_;focus (intros;simp_all only [yqg,yqh,yqi,and_self,true_and,and_true];done))
 refine zc9 rfl (fun hd=>?_) (fun hd=>?_)
 ·have hlt:=zjH hd
  repeat' first|refine zie rfl ?_|refine zc4 rfl ?_|refine zc7 ?_|refine zc8 ?_|refine zc5 ?_|refine zc6 ?_|refine zhF (fun _=>zrf _ _ _) ?_|(simp (maxSteps:=2000000) only [go_sem,yqa,yqb,yqc,yqd,yqe,yqf,zkR hr hlt,hr.some hlt,hlt,yqj];try rfl)|refine zc3 ?_|(refine And.intro ?_ ?_;focus (intros;simp_all only [yqg,yqh,yqi,and_self,true_and,and_true];done))
  skip
  refine zc9 rfl (fun hx=>?_) (fun hx=>?_)
  ·repeat' first|refine zie rfl ?_|refine zc4 rfl ?_|refine zc7 ?_|refine zc8 ?_|refine zc5 ?_|refine zc6 ?_|(simp (maxSteps:=2000000) only [go_sem,yqa,yqb,yqc,yqd,yqe,yqf];try rfl)|refine zc3 ?_|(refine And.intro ?_ ?_;focus (intros;simp_all only [yqg,yqh,yqi,and_self,true_and,and_true];done))
   rw [zKw (fun H=>by
    have:=H.2 k hlt
    rw [rmOk,iget hlt,hsl,decide_eq_true_eq] at this
    rw [Bool.not_eq_true',Bool.and_eq_false_iff,decide_eq_false_iff_not,decide_eq_false_iff_not] at hx;omega)]
  have hin:0≤r.l[k]∧r.l[k] < c.segments.l.length:=by
   rw [Bool.not_eq_false',yqi,decide_eq_true_eq,decide_eq_true_eq] at hx;omega
  obtain ⟨hx0,hx1⟩:=hin
  have hsi:r.l[k].toNat < c.segments.l.length:=by omega
  repeat' first|refine zie rfl ?_|refine zc4 rfl ?_|refine zc7 ?_|refine zc8 ?_|refine zc5 ?_|refine zc6 ?_|(simp (maxSteps:=2000000) only [go_sem,yqa,yqb,yqc,yqd,yqe,yqf,zyB hc.2 hsi,hc.2.some hsi,hsi,hx0,hx1,implies_true,true_and,and_true,and_self];try rfl)|refine zc3 ?_|(refine And.intro ?_ ?_;focus (intros;simp_all only [yqg,yqh,yqi,and_self,true_and,and_true];done))
  refine ⟨k+1,⟨hlt,zrF hk.2 (by rw [rmOk,iget hlt];exact decide_eq_true ⟨hx0,hx1⟩)⟩,by omega,?_⟩
  rw [zIx hlt]
  refine ⟨?_,zjB (zjA hlt (by omega))⟩
  simp only [zKu,gget hsi]
 ·have hge:=zjI hd
  repeat' first|refine zie rfl ?_|refine zc4 rfl ?_|refine zc7 ?_|refine zc8 ?_|refine zc5 ?_|refine zc6 ?_|(simp (maxSteps:=2000000) only [go_sem,yqa,yqb,yqc,yqd,yqe,yqf];try rfl)|refine zc3 ?_|(refine And.intro ?_ ?_;focus (intros;simp_all only [yqg,yqh,yqi,and_self,true_and,and_true];done))
  rw [zKv,if_pos ⟨hC,fun i hi=>by rw [hsl];exact hk.2 i (by omega)⟩,hsl,List.take_of_length_le hge]
end Go.Proofs.YtjiggadgmmjnhaaGreat
namespace Go.Proofs.YtjiggadgmmjnhaaGreat
open Go Go.SL
set_option maxHeartbeats 1000000
end Go.Proofs.YtjiggadgmmjnhaaGreat
namespace Go.Proofs.YtjiggadgmmjnhaaGreat
open Go Go.SL
set_option maxHeartbeats 1000000
@[go_sem] theorem zsj (t1 fs d t p af gd tk):ziY (⟨d,.build t1 fs,t,p,af,gd⟩:Oper) tk=⟨d,.build t1 fs,t,p,af,gd⟩ :: tk:=rfl
theorem zsm (s:Sl DPassage):Con.con s=s.l:=List.map_id _
theorem i64z:I64 0:=by unfold I64;omega
end Go.Proofs.YtjiggadgmmjnhaaGreat
namespace Go.Proofs.YtjiggadgmmjnhaaGreat
open Go Go.SL
set_option maxHeartbeats 1000000
def arOk (c:PChart) (s:DShip) (r st:List Int):Bool:=!decide (zKv c r < 0) && zrN s && decide (0 < r.length) && decide (r.length=st.length)
def zKA (c:PChart) (s:DShip) (r st:List Int):Int :=
 if arOk c s r st=true then (if In (st.getD (r.length - 1) 0) 0 2880=true then IntKind.i64.wrap (st.getD (r.length - 1) 0+zr5 s (c.segments.getD (r.getD (r.length - 1) 0).toNat dG)) else -1) else -1
theorem zKB {c:PChart} {s:DShip} {r st:List Int} (h:arOk c s r st=false):zKA c s r st=-1:=by rw [zKA,if_neg (by rw [h];exact Bool.false_ne_true)]
def zKC (c:PChart) (ship:Int) (s:DShip) (pts r st:List Int) (i:Nat):DPassage :=
 ⟨ship,r.getD i 0,pts.getD i 0 == (c.segments.getD (r.getD i 0).toNat dG).a,st.getD i 0,IntKind.i64.wrap (st.getD i 0+zr5 s (c.segments.getD (r.getD i 0).toNat dG))⟩
def pasL (c:PChart) (ship:Int) (s:DShip) (pts r st:List Int) (k:Nat):List DPassage:=(List.range k).map (zKC c ship s pts r st)
def zKD (c:PChart) (s:DShip) (a:Int) (r st:List Int):Bool:=zKk c a r && zrN s && decide (r.length=st.length)
def zKE (c:PChart) (ship:Int) (s:DShip) (a:Int) (r st:List Int):List DPassage :=
 if zKD c s a r st=true∧(∀ i,i < r.length→In (st.getD i 0) 0 2880=true) then pasL c ship s ((zJU c a r).getD []) r st r.length else []
theorem zKF {c:PChart} {ship:Int} {s:DShip} {a:Int} {r st:List Int} (h:¬ (zKD c s a r st=true∧∀ i,i < r.length→In (st.getD i 0) 0 2880=true)):zKE c ship s a r st=[]:=by rw [zKE,if_neg h]
theorem zKG {c:PChart} {ship:Int} {s:DShip} {pts r st:List Int} {k:Nat}:pasL c ship s pts r st (k+1)=pasL c ship s pts r st k ++ [zKC c ship s pts r st k]:=by rw [pasL,List.range_succ,List.map_append];rfl
theorem zKH {c:PChart} {ship:Int} {s:DShip} {pts r st:List Int} {k:Nat}:(pasL c ship s pts r st k).length=k:=by rw [pasL,List.length_map,List.length_range]
theorem zKI {c:DChart} {ship:Int} {s:DShip} {pts:List Int} {r st:Sl Int} {h h2:Hp} (hs:I64 ship) (hr:r.Ok h) (hst:st.Ok h) {k:Nat} (hk:k≤r.l.length) (hk2:k≤st.l.length):∀ x ∈ pasL (Con.con c) ship s pts r.l st.l k,Enc.ok h2 x:=fun x hx=>by
 obtain ⟨i,hi,rfl⟩:=List.mem_map.1 hx
 have hi:=List.mem_range.1 hi
 have h1:i < r.l.length:=by omega
 have h2:i < st.l.length:=by omega
 refine ⟨hs,?_,?_,i64w _⟩
 ·show I64 (r.l.getD i 0);rw [iget h1];exact hr.el h1
 ·show I64 (st.l.getD i 0);rw [iget h2];exact hst.el h2
theorem zKJ (c:DChart) (s:DShip) (r t:Sl Int) (h:Hp) (hc:Enc.ok h c) (hs:Enc.ok h s) (hr:r.Ok h) (ht:t.Ok h):Ct Tryz.prog 157 [c.v,s.v,r.val,t.val] h fun v h'=>v=.int .i64 (zKA (Con.con c) s r.l t.l)∧h'=h:=by
 have hl:=hr.max
 have hl2:=ht.max
 have hsl:(Con.con c).segments=c.segments.l:=zr8 c
 refine zdn (fun A W=>by simp) Tryz.func157 rfl rfl (by simp) fun W0=>?_
 repeat' first|refine zie rfl ?_|refine zc4 rfl ?_|refine zc7 ?_|refine zc8 ?_|refine zc5 ?_|refine zc6 ?_|refine zhF (fun _=>zKy c r _ hc hr) ?_|refine zhF (fun _=>zrS s _ hs) ?_|(simp (maxSteps:=2000000) only [go_sem,yqa,yqb,yqc,yqd,yqe,yqf];try rfl)|refine zc3 ?_|(refine And.intro ?_ ?_;focus (intros;simp_all only [yqg,yqh,yqi,and_self,true_and,and_true];done))
 refine zc9 rfl (fun hx=>?_) (fun hx=>?_)
 ·rw [zKB (by
   rw [arOk]
   simp only [yqh,Bool.not_eq_true',beq_iff_eq,bne_iff_ne] at hx
   rw [Bool.and_eq_false_iff,Bool.and_eq_false_iff,Bool.and_eq_false_iff,Bool.not_eq_false',decide_eq_false_iff_not,decide_eq_false_iff_not,decide_eq_true_eq]
   rcases hx with ((hx|hx)|hx)|hx
   ·exact .inl (.inl (.inl (of_decide_eq_true hx)))
   ·exact .inl (.inl (.inr hx))
   ·first|exact .inl (.inr (by omega))|exact .inr (by omega)
   ·first|exact .inr (by omega)|exact .inl (.inr (by omega)))]
  repeat' first|refine zie rfl ?_|refine zc4 rfl ?_|refine zc7 ?_|refine zc8 ?_|refine zc5 ?_|refine zc6 ?_|(simp (maxSteps:=2000000) only [go_sem,yqa,yqb,yqc,yqd,yqe,yqf];try rfl)|refine zc3 ?_|(refine And.intro ?_ ?_;focus (intros;simp_all only [yqg,yqh,yqi,and_self,true_and,and_true];done))
 have hok:arOk (Con.con c) s r.l t.l=true:=by
  rw [arOk]
  simp only [yqg,Bool.not_eq_false',beq_eq_false_iff_ne,bne_eq_false_iff_eq,ne_eq] at hx
  obtain ⟨⟨⟨h1,h2⟩,h3⟩,h4⟩:=hx
  have h1:=of_decide_eq_false h1
  rw [yqi,yqi,yqi,Bool.not_eq_true',decide_eq_false_iff_not,decide_eq_true_eq,decide_eq_true_eq]
  exact ⟨⟨⟨h1,h2⟩,by omega⟩,by omega⟩
 have hok2:=hok
 rw [arOk,yqi,yqi,yqi,Bool.not_eq_true',decide_eq_false_iff_not,decide_eq_true_eq,decide_eq_true_eq] at hok2
 obtain ⟨⟨⟨hm,hS⟩,h0⟩,hle⟩:=hok2
 obtain ⟨n,hn⟩:∃ n,r.l.length=n+1:=⟨r.l.length - 1,by omega⟩
 have hn1:n < r.l.length:=by omega
 have hn2:n < t.l.length:=by omega
 have hn1i:(n:Int) < r.l.length:=by omega
 have hn2i:(n:Int) < t.l.length:=by omega
 have hn1w:IntKind.i64.wrap ((r.l.length:Int) - 1)=(n:Int):=by rw [zjz (by omega)];omega
 have hn2w:IntKind.i64.wrap ((t.l.length:Int) - 1)=(n:Int):=by rw [zjz (by omega)];omega
 have hin:=(zKx hm).2 n hn1
 rw [rmOk,iget hn1,decide_eq_true_eq,hsl] at hin
 obtain ⟨hx0,hx1⟩:=hin
 have hsi:r.l[n].toNat < c.segments.l.length:=by omega
 have hF:zKA (Con.con c) s r.l t.l=if In t.l[n] 0 2880=true then IntKind.i64.wrap (t.l[n]+zr5 s c.segments.l[r.l[n].toNat]) else -1:=by
  rw [zKA,if_pos hok,hn,Nat.add_sub_cancel,iget hn1,iget hn2,hsl,gget hsi]
 rw [hF]
 repeat' first|refine zie rfl ?_|refine zc4 rfl ?_|refine zc7 ?_|refine zc8 ?_|refine zc5 ?_|refine zc6 ?_|refine zhF (fun _=>zrc _ _ _ _) ?_|(simp (maxSteps:=2000000) only [go_sem,yqa,yqb,yqc,yqd,yqe,yqf,hn1w,hn2w,zkR hr hn1,hr.some hn1,hn1,hn1i,zkR ht hn2,ht.some hn2,hn2,hn2i,zyB hc.2 hsi,zld hc.2 hsi,hc.2.some hsi,hsi,hx0,hx1,yqj,yqk,implies_true,true_and,and_true,and_self];try rfl)|refine zc3 ?_|(refine And.intro ?_ ?_;focus (intros;simp_all only [yqg,yqh,yqi,and_self,true_and,and_true];done))
 refine zc9 rfl (fun hy=>?_) (fun hy=>?_)
 ·rw [Bool.not_eq_true'] at hy
  rw [if_neg (by rw [In,hy];exact Bool.false_ne_true)]
  repeat' first|refine zie rfl ?_|refine zc4 rfl ?_|refine zc7 ?_|refine zc8 ?_|refine zc5 ?_|refine zc6 ?_|(simp (maxSteps:=2000000) only [go_sem,yqa,yqb,yqc,yqd,yqe,yqf];try rfl)|refine zc3 ?_|(refine And.intro ?_ ?_;focus (intros;simp_all only [yqg,yqh,yqi,and_self,true_and,and_true];done))
 rw [Bool.not_eq_false'] at hy
 rw [if_pos (by rw [In,hy])]
 repeat' first|refine zie rfl ?_|refine zc4 rfl ?_|refine zc7 ?_|refine zc8 ?_|refine zc5 ?_|refine zc6 ?_|(simp (maxSteps:=2000000) only [go_sem,yqa,yqb,yqc,yqd,yqe,yqf,hn1w,hn2w,zkR hr hn1,hr.some hn1,hn1,hn1i,zkR ht hn2,ht.some hn2,hn2,hn2i,zyB hc.2 hsi,zld hc.2 hsi,hc.2.some hsi,hsi,hx0,hx1,yqj,yqk,implies_true,true_and,and_true,and_self];try rfl)|refine zc3 ?_|(refine And.intro ?_ ?_;focus (intros;simp_all only [yqg,yqh,yqi,and_self,true_and,and_true];done))
 refine zte rfl ?_
 refine zs7 [0,1,3,4,11,2,5,6,7,8,9,10] rfl (by kernel_rfl) ?_
 simp (maxSteps:=2000000) only [go_sem,yqa,yqb,yqc,yqd,yqe,yqf,hn1w,hn2w,zkR hr hn1,hr.some hn1,hn1,hn1i,zkR ht hn2,ht.some hn2,hn2,hn2i,zyB hc.2 hsi,zld hc.2 hsi,hc.2.some hsi,hsi,hx0,hx1,yqj,yqk,implies_true,true_and,and_true,and_self]
 refine ztc 12 0 [] rfl (by kernel_rfl) (by kernel_rfl) (by kernel_rfl) rfl ?_
 simp (maxSteps:=2000000) only [go_sem,yqa,yqb,yqc,yqd,yqe,yqf,hn1w,hn2w,zkR hr hn1,hr.some hn1,hn1,hn1i,zkR ht hn2,ht.some hn2,hn2,hn2i,zyB hc.2 hsi,zld hc.2 hsi,hc.2.some hsi,hsi,hx0,hx1,yqj,yqk,implies_true,true_and,and_true,and_self]
 refine zhF (fun _=>zsc _ _ _) ?_
 simp (maxSteps:=2000000) only [go_sem,yqa,yqb,yqc,yqd,yqe,yqf,hn1w,hn2w,zkR hr hn1,hr.some hn1,hn1,hn1i,zkR ht hn2,ht.some hn2,hn2,hn2i,zyB hc.2 hsi,zld hc.2 hsi,hc.2.some hsi,hsi,hx0,hx1,yqj,yqk,implies_true,true_and,and_true,and_self]
 refine zs7 [13,14] rfl (by kernel_rfl) ?_
 simp (maxSteps:=2000000) only [go_sem,yqa,yqb,yqc,yqd,yqe,yqf,hn1w,hn2w,zkR hr hn1,hr.some hn1,hn1,hn1i,zkR ht hn2,ht.some hn2,hn2,hn2i,zyB hc.2 hsi,zld hc.2 hsi,hc.2.some hsi,hsi,hx0,hx1,yqj,yqk,implies_true,true_and,and_true,and_self]
 refine ztd (by kernel_rfl) ?_
 repeat' first|refine zie rfl ?_|refine zc4 rfl ?_|refine zc7 ?_|refine zc8 ?_|refine zc5 ?_|refine zc6 ?_|(simp (maxSteps:=2000000) only [go_sem,yqa,yqb,yqc,yqd,yqe,yqf];try rfl)|refine zc3 ?_|(refine And.intro ?_ ?_;focus (intros;simp_all only [yqg,yqh,yqi,and_self,true_and,and_true];done))
theorem zKK (c:DChart) (ship:Int) (s:DShip) (a:Int) (r t:Sl Int) (h:Hp) (hc:Enc.ok h c) (hsh:I64 ship) (hs:Enc.ok h s) (ha:I64 a) (hr:r.Ok h) (ht:t.Ok h) (hz:r.l.length≤1048576):Ct Tryz.prog 158 [c.v,.int .i64 ship,s.v,.int .i64 a,r.val,t.val] h fun v h'=>∃ q:Sl DPassage,v=q.val∧q.l=zKE (Con.con c) ship s a r.l t.l∧q.Ok h'∧Mine h h' q:=by
 have hl:=hr.max
 have hsl:(Con.con c).segments=c.segments.l:=zr8 c
 refine zdn (fun A W=>by simp) Tryz.func158 rfl rfl (by simp) fun W0=>?_
 repeat' first|refine zie rfl ?_|refine zc4 rfl ?_|refine zc7 ?_|refine zc8 ?_|refine zc5 ?_|refine zc6 ?_|refine zhF (fun _=>zKq c a r _ hc ha hr hz) ?_|refine zhF (fun _=>zrS s _ hs) ?_|(simp (maxSteps:=2000000) only [go_sem,yqa,yqb,yqc,yqd,yqe,yqf];try rfl)|refine zc3 ?_|(refine And.intro ?_ ?_;focus (intros;simp_all only [yqg,yqh,yqi,and_self,true_and,and_true];done))
 refine zc9 rfl (fun hx=>?_) (fun hx=>?_)
 ·rw [zKF (fun H=>by
   have h1:=H.1
   rw [zKD,yqi,yqi,decide_eq_true_eq] at h1
   simp only [h1.1.1,h1.1.2,h1.2,Bool.not_true,Bool.or_self,Bool.false_or,bne_self_eq_false,reduceCtorEq] at hx)]
  repeat' first|refine zie rfl ?_|refine zc4 rfl ?_|refine zc7 ?_|refine zc8 ?_|refine zc5 ?_|refine zc6 ?_|(simp (maxSteps:=2000000) only [go_sem,yqa,yqb,yqc,yqd,yqe,yqf];try rfl)|refine zc3 ?_|(refine And.intro ?_ ?_;focus (intros;simp_all only [yqg,yqh,yqi,and_self,true_and,and_true];done))
  exact ⟨⟨none,0,[]⟩,rfl,rfl,zmy,Mine.nil⟩
 simp only [yqg,Bool.not_eq_false',bne_eq_false_iff_eq] at hx
 obtain ⟨⟨hR,hS⟩,hL⟩:=hx
 have hL:r.l.length=t.l.length:=by omega
 have hok:zKD (Con.con c) s a r.l t.l=true:=by rw [zKD,hR,hS,decide_eq_true hL];rfl
 obtain ⟨hC,hin,pl,hpl,hpk,hplen,hpx⟩:=zKo hR
 repeat' first|refine zie rfl ?_|refine zc4 rfl ?_|refine zc7 ?_|refine zc8 ?_|refine zc5 ?_|refine zc6 ?_|(simp (maxSteps:=2000000) only [go_sem,yqa,yqb,yqc,yqd,yqe,yqf];try rfl)|refine zc3 ?_|(refine And.intro ?_ ?_;focus (intros;simp_all only [yqg,yqh,yqi,and_self,true_and,and_true];done))
 refine zkr (zKs c a r _ hc ha hr hz) rfl ?_
 rintro v h1 le1 ⟨p,rfl,e1,pok⟩
 rw [hpl] at e1
 have e1:p.l=pl:=e1
 have hc1:Enc.ok h1 c:=Enc.mono le1 hc
 have hs1:Enc.ok h1 s:=Enc.mono le1 hs
 have hr1:=hr.mono le1
 have ht1:=ht.mono le1
 repeat' first|refine zie rfl ?_|refine zc4 rfl ?_|refine zc7 ?_|refine zc8 ?_|refine zc5 ?_|refine zc6 ?_|(simp (maxSteps:=2000000) only [go_sem,yqa,yqb,yqc,yqd,yqe,yqf];try rfl)|refine zc3 ?_|(refine And.intro ?_ ?_;focus (intros;simp_all only [yqg,yqh,yqi,and_self,true_and,and_true];done))
 refine zma (ι:=Nat) (fun k=>⟨[(1,true,.c (.v (.int .i64 ship))),(5,true,.c (.v t.val)),(6,true,.c (.p 0 0)),(8,true,.c (.p 1 0)),(12,true,.c (.v (.slice none 0 0))),(13,true,.c (.s 2)),(14,true,.c (.v p.val)),(39,true,.c (.v r.val)),(40,true,.c (.v (.int .i64 r.l.length))),(41,true,.c (.v (.int .i64 k)))],[(0,.box 57 [.v c.points.val,.v c.segments.val]),(1,.box 156 [.v (.string s.name),.v (.int .i64 s.length),.v (.int .i64 s.draught),.v (.int .i64 s.line),.v (.int .i64 s.tugs),.v (.bool s.slow)]),(2,.row 147 5 (pasL (Con.con c) ship s p.l r.l t.l k).length ((pasL (Con.con c) ship s p.l r.l t.l k).flatMap Enc.enc))],h1,3⟩) (fun k=>k≤r.l.length∧∀ i,i < k→In (t.l.getD i 0) 0 2880=true) (fun k=>r.l.length - k) 0 ⟨Nat.zero_le _,zrH⟩ [0,1,2] ?_ ?_
 ·simp (maxSteps:=2000000) only [go_sem,yqa,yqb,yqc,yqd,yqe,yqf]
  repeat' first|exact rfl|exact trivial|assumption|decide|refine And.intro ?_ ?_
 intro k hk
 repeat' first|refine zie rfl ?_|refine zc4 rfl ?_|refine zc7 ?_|refine zc8 ?_|refine zc5 ?_|refine zc6 ?_|(simp (maxSteps:=2000000) only [go_sem,yqa,yqb,yqc,yqd,yqe,yqf];try rfl)|refine zc3 ?_|(refine And.intro ?_ ?_;focus (intros;simp_all only [yqg,yqh,yqi,and_self,true_and,and_true];done))
 refine zc9 rfl (fun hd=>?_) (fun hd=>?_)
 ·have hlt:=zjH hd
  have hlti:(k:Int) < r.l.length:=by omega
  have hlt2:k < t.l.length:=by omega
  have hlt2i:(k:Int) < t.l.length:=by omega
  have hlt3:k < p.l.length:=by rw [e1];omega
  have hlt3i:(k:Int) < p.l.length:=by omega
  have hseg:=zKp hpk (Nat.le_refl _) k hlt hlt
  rw [hsl] at hseg
  obtain ⟨hx0,hx1⟩:=hseg
  have hsi:r.l[k].toNat < c.segments.l.length:=by omega
  repeat' first|refine zie rfl ?_|refine zc4 rfl ?_|refine zc7 ?_|refine zc8 ?_|refine zc5 ?_|refine zc6 ?_|refine zhF (fun _=>zrc _ _ _ _) ?_|(simp (maxSteps:=2000000) only [go_sem,yqa,yqb,yqc,yqd,yqe,yqf,zkR hr1 hlt,hr1.some hlt,hlt,hlti,zkR ht1 hlt2,ht1.some hlt2,hlt2,hlt2i,yqj,yqk];try rfl)|refine zc3 ?_|(refine And.intro ?_ ?_;focus (intros;simp_all only [yqg,yqh,yqi,and_self,true_and,and_true];done))
  refine zc9 rfl (fun hy=>?_) (fun hy=>?_)
  ·rw [Bool.not_eq_true'] at hy
   rw [zKF (fun H=>by
    have:=H.2 k hlt
    rw [iget hlt2,In,hy] at this;cases this)]
   repeat' first|refine zie rfl ?_|refine zc4 rfl ?_|refine zc7 ?_|refine zc8 ?_|refine zc5 ?_|refine zc6 ?_|(simp (maxSteps:=2000000) only [go_sem,yqa,yqb,yqc,yqd,yqe,yqf];try rfl)|refine zc3 ?_|(refine And.intro ?_ ?_;focus (intros;simp_all only [yqg,yqh,yqi,and_self,true_and,and_true];done))
   exact ⟨⟨none,0,[]⟩,rfl,rfl,zmy,Mine.nil⟩
  rw [Bool.not_eq_false'] at hy
  have hplk:=zKH (c:=Con.con c) (ship:=ship) (s:=s) (pts:=p.l) (r:=r.l) (st:=t.l) (k:=k)
  have hat:zKC (Con.con c) ship s p.l r.l t.l k=⟨ship,r.l[k],p.l[k] == c.segments.l[r.l[k].toNat].a,t.l[k],IntKind.i64.wrap (t.l[k]+zr5 s c.segments.l[r.l[k].toNat])⟩:=by
   rw [zKC,iget hlt,iget hlt2,iget hlt3,hsl,gget hsi]
  repeat' first|refine zie rfl ?_|refine zc4 rfl ?_|refine zc7 ?_|refine zc8 ?_|refine zc5 ?_|refine zc6 ?_|(simp (maxSteps:=2000000) only [go_sem,yqa,yqb,yqc,yqd,yqe,yqf,zkR pok hlt3,pok.some hlt3,hlt3,hlt3i,zkR hr1 hlt,hr1.some hlt,hlt,hlti,zkR ht1 hlt2,ht1.some hlt2,hlt2,hlt2i,yqj,yqk,zyB hc1.2 hsi,zld hc1.2 hsi,hc1.2.some hsi,hsi,hx0,hx1,implies_true,true_and,and_true,and_self];try rfl)|refine zc3 ?_|(refine And.intro ?_ ?_;focus (intros;simp_all only [yqg,yqh,yqi,and_self,true_and,and_true];done))
  refine zte rfl ?_
  refine zs7 [0,1,2,3,5,9,10,14,15,18,19,22,24,27,4,11,16,20,23,6,12,17,21,25,7,26,8,13] rfl (by kernel_rfl) ?_
  simp (maxSteps:=2000000) only [go_sem,yqa,yqb,yqc,yqd,yqe,yqf,zkR pok hlt3,pok.some hlt3,hlt3,hlt3i,zkR hr1 hlt,hr1.some hlt,hlt,hlti,zkR ht1 hlt2,ht1.some hlt2,hlt2,hlt2i,yqj,yqk,zyB hc1.2 hsi,zld hc1.2 hsi,hc1.2.some hsi,hsi,hx0,hx1,implies_true,true_and,and_true,and_self]
  refine ztc 28 0 [13,8,7,21,17,12,6,20,16,11,4,3] rfl (by kernel_rfl) (by kernel_rfl) (by kernel_rfl) rfl ?_
  simp (maxSteps:=2000000) only [go_sem,yqa,yqb,yqc,yqd,yqe,yqf,zkR pok hlt3,pok.some hlt3,hlt3,hlt3i,zkR hr1 hlt,hr1.some hlt,hlt,hlti,zkR ht1 hlt2,ht1.some hlt2,hlt2,hlt2i,yqj,yqk,zyB hc1.2 hsi,zld hc1.2 hsi,hc1.2.some hsi,hsi,hx0,hx1,implies_true,true_and,and_true,and_self]
  refine zhF (fun _=>zsc _ _ _) ?_
  simp (maxSteps:=2000000) only [go_sem,yqa,yqb,yqc,yqd,yqe,yqf,zkR pok hlt3,pok.some hlt3,hlt3,hlt3i,zkR hr1 hlt,hr1.some hlt,hlt,hlti,zkR ht1 hlt2,ht1.some hlt2,hlt2,hlt2i,yqj,yqk,zyB hc1.2 hsi,zld hc1.2 hsi,hc1.2.some hsi,hsi,hx0,hx1,implies_true,true_and,and_true,and_self]
  refine zs7 [29] rfl (by kernel_rfl) ?_
  simp (maxSteps:=2000000) only [go_sem,yqa,yqb,yqc,yqd,yqe,yqf,zkR pok hlt3,pok.some hlt3,hlt3,hlt3i,zkR hr1 hlt,hr1.some hlt,hlt,hlti,zkR ht1 hlt2,ht1.some hlt2,hlt2,hlt2i,yqj,yqk,zyB hc1.2 hsi,zld hc1.2 hsi,hc1.2.some hsi,hsi,hx0,hx1,implies_true,true_and,and_true,and_self]
  refine ztc 30 0 [] rfl (by kernel_rfl) (by kernel_rfl) (by kernel_rfl) rfl ?_
  simp (maxSteps:=2000000) only [go_sem,yqa,yqb,yqc,yqd,yqe,yqf,zkR pok hlt3,pok.some hlt3,hlt3,hlt3i,zkR hr1 hlt,hr1.some hlt,hlt,hlti,zkR ht1 hlt2,ht1.some hlt2,hlt2,hlt2i,yqj,yqk,zyB hc1.2 hsi,zld hc1.2 hsi,hc1.2.some hsi,hsi,hx0,hx1,implies_true,true_and,and_true,and_self]
  refine ztc 31 0 [] rfl (by kernel_rfl) (by kernel_rfl) (by kernel_rfl) rfl ?_
  simp (maxSteps:=2000000) only [go_sem,yqa,yqb,yqc,yqd,yqe,yqf,zkR pok hlt3,pok.some hlt3,hlt3,hlt3i,zkR hr1 hlt,hr1.some hlt,hlt,hlti,zkR ht1 hlt2,ht1.some hlt2,hlt2,hlt2i,yqj,yqk,zyB hc1.2 hsi,zld hc1.2 hsi,hc1.2.some hsi,hsi,hx0,hx1,implies_true,true_and,and_true,and_self]
  refine ztc 32 0 [] rfl (by kernel_rfl) (by kernel_rfl) (by kernel_rfl) rfl ?_
  simp (maxSteps:=2000000) only [go_sem,yqa,yqb,yqc,yqd,yqe,yqf,zkR pok hlt3,pok.some hlt3,hlt3,hlt3i,zkR hr1 hlt,hr1.some hlt,hlt,hlti,zkR ht1 hlt2,ht1.some hlt2,hlt2,hlt2i,yqj,yqk,zyB hc1.2 hsi,zld hc1.2 hsi,hc1.2.some hsi,hsi,hx0,hx1,implies_true,true_and,and_true,and_self]
  refine ⟨by simp only [maxLen];omega,by omega,?_⟩
  refine zs7 [33] rfl (by kernel_rfl) ?_
  simp (maxSteps:=2000000) only [go_sem,yqa,yqb,yqc,yqd,yqe,yqf,zkR pok hlt3,pok.some hlt3,hlt3,hlt3i,zkR hr1 hlt,hr1.some hlt,hlt,hlti,zkR ht1 hlt2,ht1.some hlt2,hlt2,hlt2i,yqj,yqk,zyB hc1.2 hsi,zld hc1.2 hsi,hc1.2.some hsi,hsi,hx0,hx1,implies_true,true_and,and_true,and_self]
  refine ztd (by kernel_rfl) ?_
  repeat' first|refine zie rfl ?_|refine zc4 rfl ?_|refine zc7 ?_|refine zc8 ?_|refine zc5 ?_|refine zc6 ?_|(simp (maxSteps:=2000000) only [go_sem,yqa,yqb,yqc,yqd,yqe,yqf];try rfl)|refine zc3 ?_|(refine And.intro ?_ ?_;focus (intros;simp_all only [yqg,yqh,yqi,and_self,true_and,and_true];done))
  refine ⟨k+1,[0,1,4],⟨hlt,zrF hk.2 (by rw [iget hlt2,In];exact hy)⟩,by omega,?_⟩
  simp (maxSteps:=2000000) only [go_sem,yqa,yqb,yqc,yqd,yqe,yqf]
  rw [zKG,List.flatMap_append,List.length_append,hat,show (c.segments.l[r.l[k].toNat].a == p.l[k])=(p.l[k] == c.segments.l[r.l[k].toNat].a) from by rw [Bool.eq_iff_iff,beq_iff_eq,beq_iff_eq];exact eq_comm]
  repeat' first|exact zjB (zjA hlt (by omega))|exact rfl|exact trivial|assumption|decide|refine And.intro ?_ ?_
 ·have hge:=zjI hd
  have hke:k=r.l.length:=by omega
  subst hke
  refine zc6 ?_
  simp (maxSteps:=2000000) only [go_sem,yqa,yqb,yqc,yqd,yqe,yqf]
  refine zlX 2 (pasL (Con.con c) ship s p.l r.l t.l r.l.length) rfl rfl rfl rfl (by decide) (zKI hsh hr ht (Nat.le_refl _) (by omega)) h le1 (Mines.flat (fun _=>rfl) (fun _=>trivial)) fun q h' e2 e3 e4 e5=>?_
  repeat' first|refine zie rfl ?_|refine zc4 rfl ?_|refine zc7 ?_|refine zc8 ?_|refine zc5 ?_|refine zc6 ?_|(simp (maxSteps:=2000000) only [go_sem,yqa,yqb,yqc,yqd,yqe,yqf];try rfl)|refine zc3 ?_|(refine And.intro ?_ ?_;focus (intros;simp_all only [yqg,yqh,yqi,and_self,true_and,and_true];done))
  refine ⟨q,rfl,?_,e3,e5⟩
  rw [e2,zKE,if_pos ⟨hok,fun i hi=>hk.2 i hi⟩,hpl,e1];rfl
theorem zKL (c:DChart) (s:DShip) (r t:Sl Int) (h:Hp) (hc:Enc.ok h c) (hs:Enc.ok h s) (hr:r.Ok h) (ht:t.Ok h):Ct Tryz.prog 164 [c.v,s.v,r.val,t.val] h fun v h'=>v=.int .i64 (zKA (Con.con c) s r.l t.l)∧h'=h:=by
 have hl:=hr.max
 have hl2:=ht.max
 have hsl:(Con.con c).segments=c.segments.l:=zr8 c
 refine zdn (fun A W=>by simp) Tryz.func164 rfl rfl (by simp) fun W0=>?_
 repeat' first|refine zie rfl ?_|refine zc4 rfl ?_|refine zc7 ?_|refine zc8 ?_|refine zc5 ?_|refine zc6 ?_|refine zhF (fun _=>zKz c r _ hc hr) ?_|refine zhF (fun _=>zrV s _ hs) ?_|(simp (maxSteps:=2000000) only [go_sem,yqa,yqb,yqc,yqd,yqe,yqf];try rfl)|refine zc3 ?_|(refine And.intro ?_ ?_;focus (intros;simp_all only [yqg,yqh,yqi,and_self,true_and,and_true];done))
 refine zc9 rfl (fun hx=>?_) (fun hx=>?_)
 ·rw [zKB (by
   rw [arOk]
   simp only [yqh,Bool.not_eq_true',beq_iff_eq,bne_iff_ne] at hx
   rw [Bool.and_eq_false_iff,Bool.and_eq_false_iff,Bool.and_eq_false_iff,Bool.not_eq_false',decide_eq_false_iff_not,decide_eq_false_iff_not,decide_eq_true_eq]
   rcases hx with ((hx|hx)|hx)|hx
   ·exact .inl (.inl (.inl (of_decide_eq_true hx)))
   ·exact .inl (.inl (.inr hx))
   ·first|exact .inl (.inr (by omega))|exact .inr (by omega)
   ·first|exact .inr (by omega)|exact .inl (.inr (by omega)))]
  repeat' first|refine zie rfl ?_|refine zc4 rfl ?_|refine zc7 ?_|refine zc8 ?_|refine zc5 ?_|refine zc6 ?_|(simp (maxSteps:=2000000) only [go_sem,yqa,yqb,yqc,yqd,yqe,yqf];try rfl)|refine zc3 ?_|(refine And.intro ?_ ?_;focus (intros;simp_all only [yqg,yqh,yqi,and_self,true_and,and_true];done))
 have hok:arOk (Con.con c) s r.l t.l=true:=by
  rw [arOk]
  simp only [yqg,Bool.not_eq_false',beq_eq_false_iff_ne,bne_eq_false_iff_eq,ne_eq] at hx
  obtain ⟨⟨⟨h1,h2⟩,h3⟩,h4⟩:=hx
  have h1:=of_decide_eq_false h1
  rw [yqi,yqi,yqi,Bool.not_eq_true',decide_eq_false_iff_not,decide_eq_true_eq,decide_eq_true_eq]
  exact ⟨⟨⟨h1,h2⟩,by omega⟩,by omega⟩
 have hok2:=hok
 rw [arOk,yqi,yqi,yqi,Bool.not_eq_true',decide_eq_false_iff_not,decide_eq_true_eq,decide_eq_true_eq] at hok2
 obtain ⟨⟨⟨hm,hS⟩,h0⟩,hle⟩:=hok2
 obtain ⟨n,hn⟩:∃ n,r.l.length=n+1:=⟨r.l.length - 1,by omega⟩
 have hn1:n < r.l.length:=by omega
 have hn2:n < t.l.length:=by omega
 have hn1i:(n:Int) < r.l.length:=by omega
 have hn2i:(n:Int) < t.l.length:=by omega
 have hn1w:IntKind.i64.wrap ((r.l.length:Int) - 1)=(n:Int):=by rw [zjz (by omega)];omega
 have hn2w:IntKind.i64.wrap ((t.l.length:Int) - 1)=(n:Int):=by rw [zjz (by omega)];omega
 have hin:=(zKx hm).2 n hn1
 rw [rmOk,iget hn1,decide_eq_true_eq,hsl] at hin
 obtain ⟨hx0,hx1⟩:=hin
 have hsi:r.l[n].toNat < c.segments.l.length:=by omega
 have hF:zKA (Con.con c) s r.l t.l=if In t.l[n] 0 2880=true then IntKind.i64.wrap (t.l[n]+zr5 s c.segments.l[r.l[n].toNat]) else -1:=by
  rw [zKA,if_pos hok,hn,Nat.add_sub_cancel,iget hn1,iget hn2,hsl,gget hsi]
 rw [hF]
 repeat' first|refine zie rfl ?_|refine zc4 rfl ?_|refine zc7 ?_|refine zc8 ?_|refine zc5 ?_|refine zc6 ?_|refine zhF (fun _=>zre _ _) ?_|(simp (maxSteps:=2000000) only [go_sem,yqa,yqb,yqc,yqd,yqe,yqf,hn1w,hn2w,zkR hr hn1,hr.some hn1,hn1,hn1i,zkR ht hn2,ht.some hn2,hn2,hn2i,zyB hc.2 hsi,zld hc.2 hsi,hc.2.some hsi,hsi,hx0,hx1,yqj,yqk,implies_true,true_and,and_true,and_self];try rfl)|refine zc3 ?_|(refine And.intro ?_ ?_;focus (intros;simp_all only [yqg,yqh,yqi,and_self,true_and,and_true];done))
 refine zc9 rfl (fun hy=>?_) (fun hy=>?_)
 ·rw [Bool.not_eq_true'] at hy
  rw [if_neg (by rw [In,hy];exact Bool.false_ne_true)]
  repeat' first|refine zie rfl ?_|refine zc4 rfl ?_|refine zc7 ?_|refine zc8 ?_|refine zc5 ?_|refine zc6 ?_|(simp (maxSteps:=2000000) only [go_sem,yqa,yqb,yqc,yqd,yqe,yqf];try rfl)|refine zc3 ?_|(refine And.intro ?_ ?_;focus (intros;simp_all only [yqg,yqh,yqi,and_self,true_and,and_true];done))
 rw [Bool.not_eq_false'] at hy
 rw [if_pos (by rw [In,hy])]
 repeat' first|refine zie rfl ?_|refine zc4 rfl ?_|refine zc7 ?_|refine zc8 ?_|refine zc5 ?_|refine zc6 ?_|(simp (maxSteps:=2000000) only [go_sem,yqa,yqb,yqc,yqd,yqe,yqf,hn1w,hn2w,zkR hr hn1,hr.some hn1,hn1,hn1i,zkR ht hn2,ht.some hn2,hn2,hn2i,zyB hc.2 hsi,zld hc.2 hsi,hc.2.some hsi,hsi,hx0,hx1,yqj,yqk,implies_true,true_and,and_true,and_self];try rfl)|refine zc3 ?_|(refine And.intro ?_ ?_;focus (intros;simp_all only [yqg,yqh,yqi,and_self,true_and,and_true];done))
 refine zte rfl ?_
 refine zs7 [0,1,4,5,7,8,2,6,9,3,10,11,12] rfl (by kernel_rfl) ?_
 simp (maxSteps:=2000000) only [go_sem,yqa,yqb,yqc,yqd,yqe,yqf,hn1w,hn2w,zkR hr hn1,hr.some hn1,hn1,hn1i,zkR ht hn2,ht.some hn2,hn2,hn2i,zyB hc.2 hsi,zld hc.2 hsi,hc.2.some hsi,hsi,hx0,hx1,yqj,yqk,implies_true,true_and,and_true,and_self]
 refine ztc 13 0 [3,2] rfl (by kernel_rfl) (by kernel_rfl) (by kernel_rfl) rfl ?_
 simp (maxSteps:=2000000) only [go_sem,yqa,yqb,yqc,yqd,yqe,yqf,hn1w,hn2w,zkR hr hn1,hr.some hn1,hn1,hn1i,zkR ht hn2,ht.some hn2,hn2,hn2i,zyB hc.2 hsi,zld hc.2 hsi,hc.2.some hsi,hsi,hx0,hx1,yqj,yqk,implies_true,true_and,and_true,and_self]
 refine zhF (fun _=>zsd _ _ _) ?_
 simp (maxSteps:=2000000) only [go_sem,yqa,yqb,yqc,yqd,yqe,yqf,hn1w,hn2w,zkR hr hn1,hr.some hn1,hn1,hn1i,zkR ht hn2,ht.some hn2,hn2,hn2i,zyB hc.2 hsi,zld hc.2 hsi,hc.2.some hsi,hsi,hx0,hx1,yqj,yqk,implies_true,true_and,and_true,and_self]
 refine zs7 [14,15] rfl (by kernel_rfl) ?_
 simp (maxSteps:=2000000) only [go_sem,yqa,yqb,yqc,yqd,yqe,yqf,hn1w,hn2w,zkR hr hn1,hr.some hn1,hn1,hn1i,zkR ht hn2,ht.some hn2,hn2,hn2i,zyB hc.2 hsi,zld hc.2 hsi,hc.2.some hsi,hsi,hx0,hx1,yqj,yqk,implies_true,true_and,and_true,and_self]
 refine ztd (by kernel_rfl) ?_
 repeat' first|refine zie rfl ?_|refine zc4 rfl ?_|refine zc7 ?_|refine zc8 ?_|refine zc5 ?_|refine zc6 ?_|(simp (maxSteps:=2000000) only [go_sem,yqa,yqb,yqc,yqd,yqe,yqf];try rfl)|refine zc3 ?_|(refine And.intro ?_ ?_;focus (intros;simp_all only [yqg,yqh,yqi,and_self,true_and,and_true];done))
theorem zKM (c:DChart) (ship:Int) (s:DShip) (a:Int) (r t:Sl Int) (h:Hp) (hc:Enc.ok h c) (hsh:I64 ship) (hs:Enc.ok h s) (ha:I64 a) (hr:r.Ok h) (ht:t.Ok h) (hz:r.l.length≤1048576):Ct Tryz.prog 163 [c.v,.int .i64 ship,s.v,.int .i64 a,r.val,t.val] h fun v h'=>∃ q:Sl DPassage,v=q.val∧q.l=zKE (Con.con c) ship s a r.l t.l∧q.Ok h'∧Mine h h' q:=by
 have hl:=hr.max
 have hsl:(Con.con c).segments=c.segments.l:=zr8 c
 refine zdn (fun A W=>by simp) Tryz.func163 rfl rfl (by simp) fun W0=>?_
 repeat' first|refine zie rfl ?_|refine zc4 rfl ?_|refine zc7 ?_|refine zc8 ?_|refine zc5 ?_|refine zc6 ?_|refine zhF (fun _=>zKr c a r _ hc ha hr hz) ?_|refine zhF (fun _=>zrV s _ hs) ?_|(simp (maxSteps:=2000000) only [go_sem,yqa,yqb,yqc,yqd,yqe,yqf];try rfl)|refine zc3 ?_|(refine And.intro ?_ ?_;focus (intros;simp_all only [yqg,yqh,yqi,and_self,true_and,and_true];done))
 refine zc9 rfl (fun hx=>?_) (fun hx=>?_)
 ·rw [zKF (fun H=>by
   have h1:=H.1
   rw [zKD,yqi,yqi,decide_eq_true_eq] at h1
   simp only [h1.1.1,h1.1.2,h1.2,Bool.not_true,Bool.or_self,Bool.false_or,bne_self_eq_false,reduceCtorEq] at hx)]
  repeat' first|refine zie rfl ?_|refine zc4 rfl ?_|refine zc7 ?_|refine zc8 ?_|refine zc5 ?_|refine zc6 ?_|(simp (maxSteps:=2000000) only [go_sem,yqa,yqb,yqc,yqd,yqe,yqf];try rfl)|refine zc3 ?_|(refine And.intro ?_ ?_;focus (intros;simp_all only [yqg,yqh,yqi,and_self,true_and,and_true];done))
  exact ⟨⟨none,0,[]⟩,rfl,rfl,zmy,Mine.nil⟩
 simp only [yqg,Bool.not_eq_false',bne_eq_false_iff_eq] at hx
 obtain ⟨⟨hR,hS⟩,hL⟩:=hx
 have hL:r.l.length=t.l.length:=by omega
 have hok:zKD (Con.con c) s a r.l t.l=true:=by rw [zKD,hR,hS,decide_eq_true hL];rfl
 obtain ⟨hC,hin,pl,hpl,hpk,hplen,hpx⟩:=zKo hR
 repeat' first|refine zie rfl ?_|refine zc4 rfl ?_|refine zc7 ?_|refine zc8 ?_|refine zc5 ?_|refine zc6 ?_|(simp (maxSteps:=2000000) only [go_sem,yqa,yqb,yqc,yqd,yqe,yqf];try rfl)|refine zc3 ?_|(refine And.intro ?_ ?_;focus (intros;simp_all only [yqg,yqh,yqi,and_self,true_and,and_true];done))
 refine zkr (zKt c a r _ hc ha hr hz) rfl ?_
 rintro v h1 le1 ⟨p,rfl,e1,pok⟩
 rw [hpl] at e1
 have e1:p.l=pl:=e1
 have hc1:Enc.ok h1 c:=Enc.mono le1 hc
 have hs1:Enc.ok h1 s:=Enc.mono le1 hs
 have hr1:=hr.mono le1
 have ht1:=ht.mono le1
 repeat' first|refine zie rfl ?_|refine zc4 rfl ?_|refine zc7 ?_|refine zc8 ?_|refine zc5 ?_|refine zc6 ?_|(simp (maxSteps:=2000000) only [go_sem,yqa,yqb,yqc,yqd,yqe,yqf];try rfl)|refine zc3 ?_|(refine And.intro ?_ ?_;focus (intros;simp_all only [yqg,yqh,yqi,and_self,true_and,and_true];done))
 refine zma (ι:=Nat) (fun k=>⟨[(1,true,.c (.v (.int .i64 ship))),(5,true,.c (.v t.val)),(6,true,.c (.p 0 0)),(8,true,.c (.p 1 0)),(12,true,.c (.v (.slice none 0 0))),(13,true,.c (.v p.val)),(14,true,.c (.s 2)),(40,true,.c (.v r.val)),(41,true,.c (.v (.int .i64 r.l.length))),(42,true,.c (.v (.int .i64 k)))],[(0,.box 57 [.v c.points.val,.v c.segments.val]),(1,.box 156 [.v (.string s.name),.v (.int .i64 s.length),.v (.int .i64 s.draught),.v (.int .i64 s.line),.v (.int .i64 s.tugs),.v (.bool s.slow)]),(2,.row 147 5 (pasL (Con.con c) ship s p.l r.l t.l k).length ((pasL (Con.con c) ship s p.l r.l t.l k).flatMap Enc.enc))],h1,3⟩) (fun k=>k≤r.l.length∧∀ i,i < k→In (t.l.getD i 0) 0 2880=true) (fun k=>r.l.length - k) 0 ⟨Nat.zero_le _,zrH⟩ [0,1,2] ?_ ?_
 ·simp (maxSteps:=2000000) only [go_sem,yqa,yqb,yqc,yqd,yqe,yqf]
  repeat' first|exact rfl|exact trivial|assumption|decide|refine And.intro ?_ ?_
 intro k hk
 repeat' first|refine zie rfl ?_|refine zc4 rfl ?_|refine zc7 ?_|refine zc8 ?_|refine zc5 ?_|refine zc6 ?_|(simp (maxSteps:=2000000) only [go_sem,yqa,yqb,yqc,yqd,yqe,yqf];try rfl)|refine zc3 ?_|(refine And.intro ?_ ?_;focus (intros;simp_all only [yqg,yqh,yqi,and_self,true_and,and_true];done))
 refine zc9 rfl (fun hd=>?_) (fun hd=>?_)
 ·have hlt:=zjH hd
  have hlti:(k:Int) < r.l.length:=by omega
  have hlt2:k < t.l.length:=by omega
  have hlt2i:(k:Int) < t.l.length:=by omega
  have hlt3:k < p.l.length:=by rw [e1];omega
  have hlt3i:(k:Int) < p.l.length:=by omega
  have hseg:=zKp hpk (Nat.le_refl _) k hlt hlt
  rw [hsl] at hseg
  obtain ⟨hx0,hx1⟩:=hseg
  have hsi:r.l[k].toNat < c.segments.l.length:=by omega
  repeat' first|refine zie rfl ?_|refine zc4 rfl ?_|refine zc7 ?_|refine zc8 ?_|refine zc5 ?_|refine zc6 ?_|refine zhF (fun _=>zre _ _) ?_|(simp (maxSteps:=2000000) only [go_sem,yqa,yqb,yqc,yqd,yqe,yqf,zkR hr1 hlt,hr1.some hlt,hlt,hlti,zkR ht1 hlt2,ht1.some hlt2,hlt2,hlt2i,yqj,yqk];try rfl)|refine zc3 ?_|(refine And.intro ?_ ?_;focus (intros;simp_all only [yqg,yqh,yqi,and_self,true_and,and_true];done))
  refine zc9 rfl (fun hy=>?_) (fun hy=>?_)
  ·rw [Bool.not_eq_true'] at hy
   rw [zKF (fun H=>by
    have:=H.2 k hlt
    rw [iget hlt2,In,hy] at this;cases this)]
   repeat' first|refine zie rfl ?_|refine zc4 rfl ?_|refine zc7 ?_|refine zc8 ?_|refine zc5 ?_|refine zc6 ?_|(simp (maxSteps:=2000000) only [go_sem,yqa,yqb,yqc,yqd,yqe,yqf];try rfl)|refine zc3 ?_|(refine And.intro ?_ ?_;focus (intros;simp_all only [yqg,yqh,yqi,and_self,true_and,and_true];done))
   exact ⟨⟨none,0,[]⟩,rfl,rfl,zmy,Mine.nil⟩
  rw [Bool.not_eq_false'] at hy
  have hplk:=zKH (c:=Con.con c) (ship:=ship) (s:=s) (pts:=p.l) (r:=r.l) (st:=t.l) (k:=k)
  have hat:zKC (Con.con c) ship s p.l r.l t.l k=⟨ship,r.l[k],p.l[k] == c.segments.l[r.l[k].toNat].a,t.l[k],IntKind.i64.wrap (t.l[k]+zr5 s c.segments.l[r.l[k].toNat])⟩:=by
   rw [zKC,iget hlt,iget hlt2,iget hlt3,hsl,gget hsi]
  repeat' first|refine zie rfl ?_|refine zc4 rfl ?_|refine zc7 ?_|refine zc8 ?_|refine zc5 ?_|refine zc6 ?_|(simp (maxSteps:=2000000) only [go_sem,yqa,yqb,yqc,yqd,yqe,yqf,zkR pok hlt3,pok.some hlt3,hlt3,hlt3i,zkR hr1 hlt,hr1.some hlt,hlt,hlti,zkR ht1 hlt2,ht1.some hlt2,hlt2,hlt2i,yqj,yqk,zyB hc1.2 hsi,zld hc1.2 hsi,hc1.2.some hsi,hsi,hx0,hx1,implies_true,true_and,and_true,and_self];try rfl)|refine zc3 ?_|(refine And.intro ?_ ?_;focus (intros;simp_all only [yqg,yqh,yqi,and_self,true_and,and_true];done))
  refine zte rfl ?_
  refine zs7 [0,1,2,3,4,7,10,11,14,15,18,19,5,8,12,16,6,13,17,9] rfl (by kernel_rfl) ?_
  simp (maxSteps:=2000000) only [go_sem,yqa,yqb,yqc,yqd,yqe,yqf,zkR pok hlt3,pok.some hlt3,hlt3,hlt3i,zkR hr1 hlt,hr1.some hlt,hlt,hlti,zkR ht1 hlt2,ht1.some hlt2,hlt2,hlt2i,yqj,yqk,zyB hc1.2 hsi,zld hc1.2 hsi,hc1.2.some hsi,hsi,hx0,hx1,implies_true,true_and,and_true,and_self]
  refine ztc 20 0 [9,17,13,6,16,12,8,5,7] rfl (by kernel_rfl) (by kernel_rfl) (by kernel_rfl) rfl ?_
  simp (maxSteps:=2000000) only [go_sem,yqa,yqb,yqc,yqd,yqe,yqf,zkR pok hlt3,pok.some hlt3,hlt3,hlt3i,zkR hr1 hlt,hr1.some hlt,hlt,hlti,zkR ht1 hlt2,ht1.some hlt2,hlt2,hlt2i,yqj,yqk,zyB hc1.2 hsi,zld hc1.2 hsi,hc1.2.some hsi,hsi,hx0,hx1,implies_true,true_and,and_true,and_self]
  refine zhF (fun _=>zsd _ _ _) ?_
  simp (maxSteps:=2000000) only [go_sem,yqa,yqb,yqc,yqd,yqe,yqf,zkR pok hlt3,pok.some hlt3,hlt3,hlt3i,zkR hr1 hlt,hr1.some hlt,hlt,hlti,zkR ht1 hlt2,ht1.some hlt2,hlt2,hlt2i,yqj,yqk,zyB hc1.2 hsi,zld hc1.2 hsi,hc1.2.some hsi,hsi,hx0,hx1,implies_true,true_and,and_true,and_self]
  refine zs7 [21] rfl (by kernel_rfl) ?_
  simp (maxSteps:=2000000) only [go_sem,yqa,yqb,yqc,yqd,yqe,yqf,zkR pok hlt3,pok.some hlt3,hlt3,hlt3i,zkR hr1 hlt,hr1.some hlt,hlt,hlti,zkR ht1 hlt2,ht1.some hlt2,hlt2,hlt2i,yqj,yqk,zyB hc1.2 hsi,zld hc1.2 hsi,hc1.2.some hsi,hsi,hx0,hx1,implies_true,true_and,and_true,and_self]
  refine ztc 22 0 [] rfl (by kernel_rfl) (by kernel_rfl) (by kernel_rfl) rfl ?_
  simp (maxSteps:=2000000) only [go_sem,yqa,yqb,yqc,yqd,yqe,yqf,zkR pok hlt3,pok.some hlt3,hlt3,hlt3i,zkR hr1 hlt,hr1.some hlt,hlt,hlti,zkR ht1 hlt2,ht1.some hlt2,hlt2,hlt2i,yqj,yqk,zyB hc1.2 hsi,zld hc1.2 hsi,hc1.2.some hsi,hsi,hx0,hx1,implies_true,true_and,and_true,and_self]
  refine ztc 23 0 [] rfl (by kernel_rfl) (by kernel_rfl) (by kernel_rfl) rfl ?_
  simp (maxSteps:=2000000) only [go_sem,yqa,yqb,yqc,yqd,yqe,yqf,zkR pok hlt3,pok.some hlt3,hlt3,hlt3i,zkR hr1 hlt,hr1.some hlt,hlt,hlti,zkR ht1 hlt2,ht1.some hlt2,hlt2,hlt2i,yqj,yqk,zyB hc1.2 hsi,zld hc1.2 hsi,hc1.2.some hsi,hsi,hx0,hx1,implies_true,true_and,and_true,and_self]
  refine ztc 24 0 [] rfl (by kernel_rfl) (by kernel_rfl) (by kernel_rfl) rfl ?_
  simp (maxSteps:=2000000) only [go_sem,yqa,yqb,yqc,yqd,yqe,yqf,zkR pok hlt3,pok.some hlt3,hlt3,hlt3i,zkR hr1 hlt,hr1.some hlt,hlt,hlti,zkR ht1 hlt2,ht1.some hlt2,hlt2,hlt2i,yqj,yqk,zyB hc1.2 hsi,zld hc1.2 hsi,hc1.2.some hsi,hsi,hx0,hx1,implies_true,true_and,and_true,and_self]
  refine ⟨by simp only [maxLen];omega,by omega,?_⟩
  refine zs7 [25] rfl (by kernel_rfl) ?_
  simp (maxSteps:=2000000) only [go_sem,yqa,yqb,yqc,yqd,yqe,yqf,zkR pok hlt3,pok.some hlt3,hlt3,hlt3i,zkR hr1 hlt,hr1.some hlt,hlt,hlti,zkR ht1 hlt2,ht1.some hlt2,hlt2,hlt2i,yqj,yqk,zyB hc1.2 hsi,zld hc1.2 hsi,hc1.2.some hsi,hsi,hx0,hx1,implies_true,true_and,and_true,and_self]
  refine ztd (by kernel_rfl) ?_
  repeat' first|refine zie rfl ?_|refine zc4 rfl ?_|refine zc7 ?_|refine zc8 ?_|refine zc5 ?_|refine zc6 ?_|(simp (maxSteps:=2000000) only [go_sem,yqa,yqb,yqc,yqd,yqe,yqf];try rfl)|refine zc3 ?_|(refine And.intro ?_ ?_;focus (intros;simp_all only [yqg,yqh,yqi,and_self,true_and,and_true];done))
  refine ⟨k+1,[0,1,5],⟨hlt,zrF hk.2 (by rw [iget hlt2,In];exact hy)⟩,by omega,?_⟩
  simp (maxSteps:=2000000) only [go_sem,yqa,yqb,yqc,yqd,yqe,yqf]
  rw [zKG,List.flatMap_append,List.length_append,hat]
  repeat' first|exact zjB (zjA hlt (by omega))|exact rfl|exact trivial|assumption|decide|refine And.intro ?_ ?_
 ·have hge:=zjI hd
  have hke:k=r.l.length:=by omega
  subst hke
  refine zc6 ?_
  simp (maxSteps:=2000000) only [go_sem,yqa,yqb,yqc,yqd,yqe,yqf]
  refine zlX 2 (pasL (Con.con c) ship s p.l r.l t.l r.l.length) rfl rfl rfl rfl (by decide) (zKI hsh hr ht (Nat.le_refl _) (by omega)) h le1 (Mines.flat (fun _=>rfl) (fun _=>trivial)) fun q h' e2 e3 e4 e5=>?_
  repeat' first|refine zie rfl ?_|refine zc4 rfl ?_|refine zc7 ?_|refine zc8 ?_|refine zc5 ?_|refine zc6 ?_|(simp (maxSteps:=2000000) only [go_sem,yqa,yqb,yqc,yqd,yqe,yqf];try rfl)|refine zc3 ?_|(refine And.intro ?_ ?_;focus (intros;simp_all only [yqg,yqh,yqi,and_self,true_and,and_true];done))
  refine ⟨q,rfl,?_,e3,e5⟩
  rw [e2,zKE,if_pos ⟨hok,fun i hi=>hk.2 i hi⟩,hpl,e1];rfl
end Go.Proofs.YtjiggadgmmjnhaaGreat
