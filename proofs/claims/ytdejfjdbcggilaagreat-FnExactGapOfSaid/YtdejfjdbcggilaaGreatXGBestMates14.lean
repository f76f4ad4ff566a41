/- What functions of the given program compute, as contracts. -/
import Derived.Test.YtdejfjdbcggilaaGreatSGBestMatesx13
set_option linter.unusedVariables false
set_option linter.unusedSimpArgs false
set_option maxRecDepth 4000
open Nat renaming reduceAdd → jq, reduceMul → jj, reduceBEq → jy, reduceLeDiff → jv, reduceLT → jk, reduceEqDiff → jx
open Bool renaming or_eq_false_iff → jp, or_eq_true → jQ, and_eq_true → jJ
open Int renaming toNat_natCast → jW, natCast_nonneg → jY
open Go.Proofs.Tryz renaming prog → jV
namespace Go.Proofs.YtdejfjdbcggilaaGreat
open Go Go.SL
set_option maxHeartbeats 1000000
def zEJ (g:List DSegment) (pts:List Int) (i:Nat):Int:=zCZ (g.getD i dG) (pts.getLast?.getD 0)
def wkAt (F:List Int→List Int→List (List Int)) (g:List DSegment) (pts r:List Int) (i:Nat):List (List Int) :=
 if 0≤zEJ g pts i∧zEJ g pts i ∉ pts then F (pts ++ [zEJ g pts i]) (r ++ [(i:Int)]) else []
def zEK (g:List DSegment) (to:Int):Nat→List Int→List Int→List (List Int)
 | 0,_,_=>[]
 | f+1,pts,r=>if pts.getLast?.getD 0=to then [r] else (List.range g.length).flatMap (wkAt (zEK g to f) g pts r)
theorem zEL {g:List DSegment} {to:Int} (hg:g.length≤10):∀ {f:Nat} {pts r:List Int},(zEK g to f pts r).length≤10 ^ f
 | 0,_,_=>Nat.zero_le _
 | f+1,pts,r=>by
  unfold zEK
  have hp:0 < 10 ^ f:=Nat.pow_pos (by decide)
  rw [Nat.pow_succ]
  split
  ·show 1≤_;omega
  ·refine Nat.le_trans (zDo (B:=10 ^ f) fun i _=>?_) ?_
   ·unfold wkAt
    split
    ·exact zEL hg
    ·exact Nat.zero_le _
   ·rw [List.length_range]
    exact Nat.le_trans (Nat.mul_le_mul_right _ hg) (by omega)
theorem zEM {g:List DSegment} {to:Int} (hg:g.length≤10) {f k:Nat} {pts r:List Int} (hk:k≤10):((List.range k).flatMap (wkAt (zEK g to f) g pts r)).length≤k * 10 ^ f:=by
 have:=zDo (B:=10 ^ f) (l:=List.range k) (F:=wkAt (zEK g to f) g pts r) fun i _=>by
  unfold wkAt
  split
  ·exact zEL hg
  ·exact Nat.zero_le _
 rwa [List.length_range] at this
theorem zEN {c:PChart} (h:zz9 c=true):c.segments.length≤10:=by
 simp only [zz9,jJ,decide_eq_true_eq] at h
 exact h.1.1.2
theorem zEO {c:PChart} (h:zz9 c=true) {pts:List Int} (hn:pts.Nodup) (hx:∀ x ∈ pts,0≤x∧x < c.points.length):pts.length≤8:=Nat.le_trans (zDs hn hx) (zC4 h).1
def zEP (h:Hp) (out:Sl (Sl Int)) (l:List (List Int)) (v:Value) (h':Hp):Prop :=
 ∃ s:Sl (Sl Int),v=s.val∧s.l.map (·.l)=out.l.map (·.l) ++ l∧WS 35 h' s∧(∀ g,s.a=some ⟨g,0,none⟩→h g=none∨out.a=some ⟨g,0,none⟩)∧(zCO h out).le (zCO h' s)
theorem zEQ {l:List Int} {u:Value} (hu:u ∈ l.flatMap Enc.enc):u.oneCell'=true:=by
 obtain ⟨x,_,hu⟩:=List.mem_flatMap.1 hu
 exact Enc.one x u hu
set_option maxRecDepth 20000 in
theorem zER (c:DChart) (hC:zz9 (Con.con c)=true) (to:Int) :
  ∀ (f:Nat) (pts r:Sl Int) (out:Sl (Sl Int)) (h:Hp),Enc.ok (zCO h out) c→pts.Ok (zCO h out)→r.Ok (zCO h out)→WS 35 h out→pts.l ≠ []→pts.l.Nodup→(∀ x ∈ pts.l,0≤x∧x < c.points.l.length)→pts.l.length+f=9→r.l.length≤pts.l.length→out.l.length+10 ^ f≤2000000000 →
   Cw jV 253 [c.v,pts.val,r.val,.int .i64 to,out.val] h (fun k=>out.a=some ⟨k,0,none⟩) (zEP h out (zEK c.segments.l to f pts.l r.l))
 | 0,pts,r,out,h,hc,hp,hr,hW,hne,hnd,hin,hlen,hrl,hol=>by
  have:=zEO hC hnd (fun x hx=>by rw [zC6];exact hin x hx)
  omega
 | f+1,pts,r,out,h,hc,hp,hr,hW,hne,hnd,hin,hlen,hrl,hol=>by
  have hcd:=hc
  have hpd:=hp
  have hrd:=hr
  replace hc:Enc.ok h c:=Enc.mono zDk hc
  replace hp:pts.Ok h:=hp.mono zDk
  replace hr:r.Ok h:=hr.mono zDk
  have hg10:c.segments.l.length≤10:=by rw [← zAX];exact zEN hC
  have h8:=zEO hC hnd (fun x hx=>by rw [zC6];exact hin x hx)
  have hp8:c.points.l.length≤8:=by rw [← zC6];exact (zC4 hC).1
  obtain ⟨n,hn⟩:∃ n,pts.l.length=n+1:=⟨pts.l.length - 1,by have:=List.length_pos_iff.2 hne;omega⟩
  have hn1:n < pts.l.length:=by omega
  have hn1i:(n:Int) < pts.l.length:=by omega
  have hnw:IntKind.i64.wrap ((pts.l.length:Int) - 1)=(n:Int):=by rw [zjz (by omega)];omega
  have hlast:pts.l.getLast?.getD 0=pts.l[n]:=by rw [zDz hn,iget hn1]
  obtain ⟨p0,hp0⟩:∃ p0,pts.l[n]=p0:=⟨_,rfl⟩
  rw [hp0] at hlast
  refine zlI (fun A W=>by simp) Tryz.func253 rfl rfl (by simp)  (fun k hk=>hW.1.mem hk) fun W0 hWo=>?_
  repeat' first|refine Wa ?_|(simp only [go_sem,jq,jj,jy,jv,jk,jx,hnw,zkR hp hn1,hp.some hn1,hn1,hn1i,hp0,jW,jY,implies_true,true_and,and_true,and_self];try rfl)|refine Wb ?_|fail
  refine zc9 rfl (fun hx=>?_) (fun hx=>?_)
  ·have hx:p0=to:=eq_of_beq hx
   have hF:zEK c.segments.l to (f+1) pts.l r.l=[r.l]:=by rw [zEK,if_pos (by rw [hlast];exact hx)]
   have hallr:h.ldL r.val 1=some (r.l.flatMap Enc.enc):=hr.all (by decide)
   first|refine zyi [0,0,0,2,0,3,0] rfl ?_|refine zyh [0,0,0,2,0,3,0] rfl ?_|(refine zc3 ?_;first|refine zyi [0,0,0,2,0,3,0] rfl ?_|refine zyh [0,0,0,2,0,3,0] rfl ?_)
   simp only [go_sem,jq,jj,jy,jv,jk,jx,hallr,Option.isSome_some,Option.getD_some,true_and,Nat.zero_add,List.nil_append]
   refine ⟨fun u hu=>zEQ hu,by simp only [maxLen];omega,by omega,fun ad cap h1 P1=>?_⟩
   have P1':Pub h 3 (Enc.size Int) r.l.length (r.l.flatMap Enc.enc) ad cap h1:=P1
   have P1d:=P1'.beside hW.1
   obtain ⟨W1,hd1⟩:=hW.grow P1'.le
   have q1:(Sl.mk ad cap r.l).Ok (zCO h1 out):=Pub.sl (by decide) P1d (fun x hx=>hrd.2.2.2.1 x hx)
   refine zCQ (s:=out) rfl W1.1 (fun g hg=>.inr (hWo g hg)) ?_
   refine Evs ?_
   have hp10:0 < 10 ^ (f+1):=Nat.pow_pos (by decide)
   refine ⟨rfl,by simp only [maxLen];omega,by omega,fun ad2 cap2 h2 P2=>?_⟩
   have P2':Pub (zCO h1 out) 35 (Enc.size (Sl Int)) (out.l ++ [Sl.mk ad cap r.l]).length ((out.l ++ [Sl.mk ad cap r.l]).flatMap Enc.enc) ad2 cap2 h2:=by
    rw [List.length_append,List.flatMap_append];exact P2
   obtain ⟨W2,hd2,fr2,kp2⟩:=W1.push q1 P2'
   rw [hF]
   refine Wk ?_
   refine ⟨Sl.mk ad2 cap2 (out.l ++ [Sl.mk ad cap r.l]),by simp only [Sl.val,List.length_append,List.length_singleton],by rw [List.map_append];rfl,W2,fun g hg=>?_,by rw [hd2];exact hd1⟩
   rcases fr2 g hg with e|e
   ·exact .inl (znC P1'.le e)
   ·exact .inr e
  have hx:¬ p0=to:=ne_of_beq_false hx
  have hF:zEK c.segments.l to (f+1) pts.l r.l=(List.range c.segments.l.length).flatMap (wkAt (zEK c.segments.l to f) c.segments.l pts.l r.l):=by rw [zEK,if_neg (by rw [hlast];exact hx)]
  rw [hF]
  refine Wk ?_
  refine zEE (ι:=Nat × Hp × Sl (Sl Int)) (fun i=>⟨[(1,true,.c (.v pts.val)),(2,true,.c (.v r.val)),(3,true,.c (.v (.int .i64 to))),(4,true,.c (.v i.2.2.val)),(5,true,.c (.p 0 0)),(10,true,.c (.v (.slice none 0 0))),(11,true,.c (.v (.int .i64 p0))),(31,true,.c (.v c.segments.val)),(32,true,.c (.v (.int .i64 c.segments.l.length))),(33,true,.c (.v (.int .i64 i.1)))],[(0,.box 53 [.v c.points.val,.v c.segments.val])],i.2.1,1⟩)
   (fun i=>i.1≤c.segments.l.length∧WS 35 i.2.1 i.2.2∧(∀ g,i.2.2.a=some ⟨g,0,none⟩→h g=none∨out.a=some ⟨g,0,none⟩)∧(zCO h out).le (zCO i.2.1 i.2.2)∧i.2.2.l.map (·.l)=out.l.map (·.l) ++ (List.range i.1).flatMap (wkAt (zEK c.segments.l to f) c.segments.l pts.l r.l)) (fun i=>c.segments.l.length - i.1) (0,h,out) ⟨Nat.zero_le _,hW,fun g hg=>.inr hg,Hp.le_refl _,by simp⟩ [0] ?_ ?_
  ·refine Evs ?_
   exact Gk
  rintro ⟨i,hk,o⟩ ⟨hi,hWk,hfr,hle,hl⟩
  simp only at hi hWk hfr hle hl
  have hsub:(zCO h out).le hk:=Hp.le_trans hle zDk
  have hck:Enc.ok hk c:=Enc.mono hsub hcd
  have hpk:=hpd.mono hsub
  have hrk:=hrd.mono hsub
  refine Wk ?_
  refine zc9 rfl (fun hd=>?_) (fun hd=>?_)
  ·have hlt:=zjH hd
   have hlti:(i:Int) < c.segments.l.length:=by omega
   obtain ⟨y,hye⟩:∃ y,zCZ c.segments.l[i] p0=y:=⟨_,rfl⟩
   have hwe:zEJ c.segments.l pts.l i=y:=by rw [zEJ,gget hlt,hlast,hye]
   have hyn:y < c.points.l.length:=by
    have:=(zC5 hC (i:=i) (by rw [zAX];exact hlt) p0).1
    rw [zAX,zC6,gget hlt,hye] at this
    exact this
   have hat:wkAt (zEK c.segments.l to f) c.segments.l pts.l r.l i=if 0≤y∧y ∉ pts.l then zEK c.segments.l to f (pts.l ++ [y]) (r.l ++ [(i:Int)]) else []:=by rw [wkAt,hwe]
   repeat' first|refine Wa ?_|refine zhF (fun _=>zC8 c.segments.l[i] p0 _) ?_|(simp only [go_sem,jq,jj,jy,jv,jk,jx,zlh hck.2 hlt,hck.2.some hlt,zmT hck.2 hlt,hlt,hlti,jW,jY,implies_true,true_and,and_true,and_self];try rfl)|refine Wb ?_|fail
   rw [hye]
   repeat' first|refine Wa ?_|refine zhF (fun _=>zDE pts y _ hpk) ?_|(simp only [go_sem,jq,jj,jy,jv,jk,jx];try rfl)|refine Wb ?_|fail
   refine zED (ι:=Hp × Sl (Sl Int)) (fun j=>⟨[(1,true,.c (.v pts.val)),(2,true,.c (.v r.val)),(3,true,.c (.v (.int .i64 to))),(4,true,.c (.v j.2.val)),(5,true,.c (.p 0 0)),(10,true,.c (.v (.slice none 0 0))),(11,true,.c (.v (.int .i64 p0))),(31,true,.c (.v c.segments.val)),(32,true,.c (.v (.int .i64 c.segments.l.length))),(33,true,.c (.v (.int .i64 i)))],[(0,.box 53 [.v c.points.val,.v c.segments.val])],j.1,1⟩)
    (fun j=>WS 35 j.1 j.2∧(∀ g,j.2.a=some ⟨g,0,none⟩→h g=none∨out.a=some ⟨g,0,none⟩)∧(zCO h out).le (zCO j.1 j.2)∧j.2.l.map (·.l)=out.l.map (·.l) ++ (List.range (i+1)).flatMap (wkAt (zEK c.segments.l to f) c.segments.l pts.l r.l)) (fun _=>rfl) ?_ ?_
   ·refine zc9 rfl (fun hz=>?_) (fun hz=>?_)
    ·have hz1:0≤y:=of_decide_eq_true (Bool.and_eq_true_iff.1 hz).1
     have hz2:y ∉ pts.l:=of_decide_eq_false (by simpa using (Bool.and_eq_true_iff.1 hz).2)
     rw [if_pos ⟨hz1,hz2⟩] at hat
     have hallp:hk.ldL pts.val 1=some (pts.l.flatMap Enc.enc):=hpk.all (by decide)
     have hallr:hk.ldL r.val 1=some (r.l.flatMap Enc.enc):=hrk.all (by decide)
     have hy64:I64 y:=by unfold I64;omega
     have hi64:I64 (i:Int):=by unfold I64;omega
     refine zyW rfl ?_
     refine U_t [0,2,4,8,10,13,14] rfl ?_
     simp only [go_sem,jq,jj,jy,jv,jk,jx,hallp,hallr,Option.isSome_some,Option.getD_some,true_and,Nat.zero_add,List.nil_append]
     refine zEw 2 #[true,true,true,true,true,true,true,true,true,true,true,true,true,true,true,false,false] ⟨[(1,true,.c (.v pts.val)),(2,true,.c (.v r.val)),(3,true,.c (.v (.int .i64 to))),(4,true,.c (.v o.val)),(5,true,.c (.p 0 0)),(10,true,.c (.v (.slice none 0 0))),(11,true,.c (.v (.int .i64 p0))),(31,true,.c (.v c.segments.val)),(32,true,.c (.v (.int .i64 c.segments.l.length))),(33,true,.c (.v (.int .i64 i))),(49,true,.g [.v c.points.val,.v c.segments.val]),(51,true,.c (.v pts.val)),(53,true,.c (.v (.int .i64 y))),(57,true,.c (.v r.val)),(59,true,.c (.v (.int .i64 i))),(62,true,.c (.v (.int .i64 to))),(63,true,.c (.v o.val)),(55,true,.c (.s 1)),(61,true,.c (.s 2))],[(0,.box 53 [.v c.points.val,.v c.segments.val]),(1,.row 3 1 (pts.l.length+1) (pts.l.flatMap Enc.enc ++ [.int .i64 y])),(2,.row 3 1 (r.l.length+1) (r.l.flatMap Enc.enc ++ [.int .i64 i]))],hk,3⟩ ?_ fun N0=>?_
     ·refine zEy 1 (pts.l ++ [y]) rfl rfl (by simp) (by rw [List.flatMap_append];rfl) fun q1 g1 eq1 R1 fq1 le1 kq1=>?_
      refine Evs ?_
      refine zEy 2 (r.l ++ [(i:Int)]) rfl rfl (by simp) (by rw [List.flatMap_append];rfl) fun q2 g2 eq2 R2 fq2 le2 kq2=>?_
      refine Evs ?_
      obtain ⟨Wa,la⟩:=hWk.grow le1
      obtain ⟨Wb,lb⟩:=Wa.grow le2
      have lab:=Hp.le_trans la lb
      have k1:q1.Ok (zCO g2 o):=by
       refine Sl.Ok.mono lb (RowAt.ok (by decide) (R1.keep (h':=zCO g1 o) fun g hg=>zDm fun a ha e=>?_) fun x hx=>?_)
       ·have hb:=hWk.1.blk a ha
        rw [hb,← e] at ha
        exact hWk.1.mem ha (fq1 g hg)
       ·rw [eq1] at hx
        rcases List.mem_append.1 hx with hx|hx
        ·exact hpk.2.2.2.1 x hx
        ·rw [List.mem_singleton.1 hx];exact hy64
      have k2:q2.Ok (zCO g2 o):=by
       refine RowAt.ok (by decide) (R2.keep (h':=zCO g2 o) fun g hg=>zDm fun a ha e=>?_) fun x hx=>?_
       ·have hb:=Wa.1.blk a ha
        rw [hb,← e] at ha
        exact Wa.1.mem ha (fq2 g hg)
       ·rw [eq2] at hx
        rcases List.mem_append.1 hx with hx|hx
        ·exact hrk.2.2.2.1 x hx
        ·rw [List.mem_singleton.1 hx];exact hi64
      have hol2:o.l.length+10 ^ f≤2000000000:=by
       have e1:=congrArg List.length hl
       rw [List.length_map,List.length_append,List.length_map] at e1
       have e2:=zEM (to:=to) hg10 (f:=f) (k:=i) (pts:=pts.l) (r:=r.l) (by omega)
       have e3:(i+1) * 10 ^ f≤10 * 10 ^ f:=Nat.mul_le_mul_right _ (by omega)
       rw [Nat.add_mul,Nat.one_mul] at e3
       rw [Nat.pow_succ] at hol
       omega
      refine U_1 15 1 [] rfl rfl ?_
      refine Evs ?_
      refine zlJ (zER c hC to f q1 q2 o g2 (Enc.mono (Hp.le_trans hle lab) hcd) k1 k2 Wb (by rw [eq1];simp) (by rw [eq1,List.nodup_append];exact ⟨hnd,by simp,fun a ha b hb e=>by rw [List.mem_singleton.1 hb] at e;rw [e] at ha;exact hz2 ha⟩) (fun x hx=>by
       rw [eq1] at hx
       rcases List.mem_append.1 hx with hx|hx
       ·exact hin x hx
       ·rw [List.mem_singleton.1 hx];exact ⟨hz1,hyn⟩) (by rw [eq1,List.length_append,List.length_singleton];omega) (by rw [eq1,eq2,List.length_append,List.length_append,List.length_singleton,List.length_singleton];omega) hol2) rfl (fun k hk=>⟨Wb.1.mem hk,(hfr k hk).imp id (hWo k)⟩) ?_
      rintro v h4 kp ⟨s,rfl,hs,Ws,fs,les⟩
      refine Evs ?_
      refine U_t [16] rfl ?_
      refine Evs ?_
      refine U_d ?_
      refine ⟨(h4,s),[0],⟨Ws,fun g hg=>?_,Hp.le_trans hle (Hp.le_trans lab les),?_⟩,?_⟩
      ·rcases fs g hg with e|e
       ·by_cases ho:out.a=some ⟨g,0,none⟩
        ·exact .inr ho
        ·left
         cases hh:h g with
         | none=>rfl
         | some ob =>
          have h5:zCO h out g=some ob:=by rw [zDm (fun a ha e'=>ho (by rw [ha,hW.1.blk a ha,e']))];exact hh
          have h6:=zDk g ob (lab g ob (hle g ob h5))
          rw [e] at h6;cases h6
       ·exact hfr g e
      ·rw [hs,hl,eq1,eq2];simp [List.flatMap_append,hat]
      refine Evs ?_
      exact Gk
     refine zEw 3 #[true,true,true,true,true,true,true,true,true,true,true,true,false,true,true,false,false] ⟨[(1,true,.c (.v pts.val)),(2,true,.c (.v r.val)),(3,true,.c (.v (.int .i64 to))),(4,true,.c (.v o.val)),(5,true,.c (.p 0 0)),(10,true,.c (.v (.slice none 0 0))),(11,true,.c (.v (.int .i64 p0))),(31,true,.c (.v c.segments.val)),(32,true,.c (.v (.int .i64 c.segments.l.length))),(33,true,.c (.v (.int .i64 i))),(49,true,.g [.v c.points.val,.v c.segments.val]),(51,true,.c (.v pts.val)),(53,true,.c (.v (.int .i64 y))),(57,true,.c (.v r.val)),(59,true,.c (.v (.int .i64 i))),(62,true,.c (.v (.int .i64 to))),(63,true,.c (.v o.val)),(55,true,.c (.s 1)),(58,true,.c (.s 2)),(60,true,.c (.s 3))],[(0,.box 53 [.v c.points.val,.v c.segments.val]),(1,.row 3 1 (pts.l.length+1) (pts.l.flatMap Enc.enc ++ [.int .i64 y])),(2,.row 3 1 r.l.length (r.l.flatMap Enc.enc)),(3,.row 3 1 1 [.int .i64 i])],hk,4⟩ ?_ fun N1=>?_
     ·refine U_m 12 [] ⟨?_,trivial⟩
      ·refine U_b 12 0 [0] rfl rfl ?_
       simp only [go_sem,jq,jj,jy,jv,jk,jx,hallp,hallr,Option.isSome_some,Option.getD_some,true_and,Nat.zero_add,List.nil_append]
       refine ⟨by simp only [maxLen];omega,by omega,?_⟩
       refine zEA [0,1,4] N0 rfl rfl ?_
       refine Evs ?_
       exact Gk
     refine zEw 4 #[true,true,true,true,true,true,true,true,true,true,true,false,false,true,true,false,false] ⟨[(1,true,.c (.v pts.val)),(2,true,.c (.v r.val)),(3,true,.c (.v (.int .i64 to))),(4,true,.c (.v o.val)),(5,true,.c (.p 0 0)),(10,true,.c (.v (.slice none 0 0))),(11,true,.c (.v (.int .i64 p0))),(31,true,.c (.v c.segments.val)),(32,true,.c (.v (.int .i64 c.segments.l.length))),(33,true,.c (.v (.int .i64 i))),(49,true,.g [.v c.points.val,.v c.segments.val]),(51,true,.c (.v pts.val)),(53,true,.c (.v (.int .i64 y))),(57,true,.c (.v r.val)),(59,true,.c (.v (.int .i64 i))),(62,true,.c (.v (.int .i64 to))),(63,true,.c (.v o.val)),(55,true,.c (.s 1)),(58,true,.c (.s 2))],[(0,.box 53 [.v c.points.val,.v c.segments.val]),(1,.row 3 1 (pts.l.length+1) (pts.l.flatMap Enc.enc ++ [.int .i64 y])),(2,.row 3 1 r.l.length (r.l.flatMap Enc.enc))],hk,3⟩ ?_ fun N2=>?_
     ·refine U_m 11 [] ⟨?_,trivial⟩
      ·refine U_b 11 0 [0] rfl rfl ?_
       simp only [go_sem,jq,jj,jy,jv,jk,jx,hallp,hallr,Option.isSome_some,Option.getD_some,true_and,Nat.zero_add,List.nil_append]
       refine zEA [0,1,2,3] N1 rfl rfl ?_
       refine Evs ?_
       exact Gk
     refine zEw 4 #[true,true,true,true,true,true,true,true,true,false,true,true,false,true,true,false,false] ⟨[(1,true,.c (.v pts.val)),(2,true,.c (.v r.val)),(3,true,.c (.v (.int .i64 to))),(4,true,.c (.v o.val)),(5,true,.c (.p 0 0)),(10,true,.c (.v (.slice none 0 0))),(11,true,.c (.v (.int .i64 p0))),(31,true,.c (.v c.segments.val)),(32,true,.c (.v (.int .i64 c.segments.l.length))),(33,true,.c (.v (.int .i64 i))),(49,true,.g [.v c.points.val,.v c.segments.val]),(51,true,.c (.v pts.val)),(53,true,.c (.v (.int .i64 y))),(57,true,.c (.v r.val)),(59,true,.c (.v (.int .i64 i))),(62,true,.c (.v (.int .i64 to))),(63,true,.c (.v o.val)),(55,true,.c (.s 1)),(56,true,.c (.s 2)),(60,true,.c (.s 3))],[(0,.box 53 [.v c.points.val,.v c.segments.val]),(1,.row 3 1 (pts.l.length+1) (pts.l.flatMap Enc.enc ++ [.int .i64 y])),(2,.row 3 1 0 []),(3,.row 3 1 1 [.int .i64 i])],hk,4⟩ ?_ fun N3=>?_
     ·refine U_m 9 [] ⟨?_,trivial⟩
      ·refine U_b 9 0 [0] rfl rfl ?_
       simp only [go_sem,jq,jj,jy,jv,jk,jx,hallp,hallr,Option.isSome_some,Option.getD_some,true_and,Nat.zero_add,List.nil_append]
       refine ⟨fun u hu=>zEQ hu,by simp only [maxLen];omega,by omega,?_⟩
       refine zEA [0,1,4,3] N1 rfl rfl ?_
       refine Evs ?_
       exact Gk
     refine zEw 5 #[true,true,true,true,true,true,true,true,true,false,true,false,false,true,true,false,false] ⟨[(1,true,.c (.v pts.val)),(2,true,.c (.v r.val)),(3,true,.c (.v (.int .i64 to))),(4,true,.c (.v o.val)),(5,true,.c (.p 0 0)),(10,true,.c (.v (.slice none 0 0))),(11,true,.c (.v (.int .i64 p0))),(31,true,.c (.v c.segments.val)),(32,true,.c (.v (.int .i64 c.segments.l.length))),(33,true,.c (.v (.int .i64 i))),(49,true,.g [.v c.points.val,.v c.segments.val]),(51,true,.c (.v pts.val)),(53,true,.c (.v (.int .i64 y))),(57,true,.c (.v r.val)),(59,true,.c (.v (.int .i64 i))),(62,true,.c (.v (.int .i64 to))),(63,true,.c (.v o.val)),(55,true,.c (.s 1)),(56,true,.c (.s 2))],[(0,.box 53 [.v c.points.val,.v c.segments.val]),(1,.row 3 1 (pts.l.length+1) (pts.l.flatMap Enc.enc ++ [.int .i64 y])),(2,.row 3 1 0 [])],hk,3⟩ ?_ fun N4=>?_
     ·refine U_m 9 [11] ⟨?_,?_,trivial⟩
      ·refine U_b 9 0 [0] rfl rfl ?_
       simp only [go_sem,jq,jj,jy,jv,jk,jx,hallp,hallr,Option.isSome_some,Option.getD_some,true_and,Nat.zero_add,List.nil_append]
       refine ⟨fun u hu=>zEQ hu,by simp only [maxLen];omega,by omega,?_⟩
       refine zEA [0,1,3] N2 rfl rfl ?_
       refine Evs ?_
       exact Gk
      ·refine U_b 11 0 [0] rfl rfl ?_
       simp only [go_sem,jq,jj,jy,jv,jk,jx,hallp,hallr,Option.isSome_some,Option.getD_some,true_and,Nat.zero_add,List.nil_append]
       refine zEA [0,1,2,3] N3 rfl rfl ?_
       refine Evs ?_
       exact Gk
     refine zEw 5 #[true,true,true,true,true,true,true,false,true,false,true,true,false,true,true,false,false] ⟨[(1,true,.c (.v pts.val)),(2,true,.c (.v r.val)),(3,true,.c (.v (.int .i64 to))),(4,true,.c (.v o.val)),(5,true,.c (.p 0 0)),(10,true,.c (.v (.slice none 0 0))),(11,true,.c (.v (.int .i64 p0))),(31,true,.c (.v c.segments.val)),(32,true,.c (.v (.int .i64 c.segments.l.length))),(33,true,.c (.v (.int .i64 i))),(49,true,.g [.v c.points.val,.v c.segments.val]),(51,true,.c (.v pts.val)),(53,true,.c (.v (.int .i64 y))),(57,true,.c (.v r.val)),(59,true,.c (.v (.int .i64 i))),(62,true,.c (.v (.int .i64 to))),(63,true,.c (.v o.val)),(55,true,.c (.s 1)),(60,true,.c (.s 2))],[(0,.box 53 [.v c.points.val,.v c.segments.val]),(1,.row 3 1 (pts.l.length+1) (pts.l.flatMap Enc.enc ++ [.int .i64 y])),(2,.row 3 1 1 [.int .i64 i])],hk,3⟩ ?_ fun N5=>?_
     ·refine U_m 7 [] ⟨?_,trivial⟩
      ·refine U_b 7 0 [0] rfl rfl ?_
       simp only [go_sem,jq,jj,jy,jv,jk,jx,hallp,hallr,Option.isSome_some,Option.getD_some,true_and,Nat.zero_add,List.nil_append]
       refine zEA [0,1,3,2] N3 rfl rfl ?_
       refine Evs ?_
       exact Gk
     refine zEw 5 #[true,true,true,true,true,true,false,true,true,false,true,true,false,true,true,false,false] ⟨[(1,true,.c (.v pts.val)),(2,true,.c (.v r.val)),(3,true,.c (.v (.int .i64 to))),(4,true,.c (.v o.val)),(5,true,.c (.p 0 0)),(10,true,.c (.v (.slice none 0 0))),(11,true,.c (.v (.int .i64 p0))),(31,true,.c (.v c.segments.val)),(32,true,.c (.v (.int .i64 c.segments.l.length))),(33,true,.c (.v (.int .i64 i))),(49,true,.g [.v c.points.val,.v c.segments.val]),(51,true,.c (.v pts.val)),(53,true,.c (.v (.int .i64 y))),(57,true,.c (.v r.val)),(59,true,.c (.v (.int .i64 i))),(62,true,.c (.v (.int .i64 to))),(63,true,.c (.v o.val)),(52,true,.c (.s 1)),(54,true,.c (.s 2)),(56,true,.c (.s 3)),(60,true,.c (.s 4))],[(0,.box 53 [.v c.points.val,.v c.segments.val]),(1,.row 3 1 pts.l.length (pts.l.flatMap Enc.enc)),(2,.row 3 1 1 [.int .i64 y]),(3,.row 3 1 0 []),(4,.row 3 1 1 [.int .i64 i])],hk,5⟩ ?_ fun N6=>?_
     ·refine U_m 6 [] ⟨?_,trivial⟩
      ·refine U_b 6 0 [0] rfl rfl ?_
       simp only [go_sem,jq,jj,jy,jv,jk,jx,hallp,hallr,Option.isSome_some,Option.getD_some,true_and,Nat.zero_add,List.nil_append]
       refine ⟨by simp only [maxLen];omega,by omega,?_⟩
       refine zEA [0,5,3,4] N3 rfl rfl ?_
       refine Evs ?_
       exact Gk
     refine zEw 6 #[true,true,true,true,true,true,true,false,true,false,true,false,false,true,true,false,false] ⟨[(1,true,.c (.v pts.val)),(2,true,.c (.v r.val)),(3,true,.c (.v (.int .i64 to))),(4,true,.c (.v o.val)),(5,true,.c (.p 0 0)),(10,true,.c (.v (.slice none 0 0))),(11,true,.c (.v (.int .i64 p0))),(31,true,.c (.v c.segments.val)),(32,true,.c (.v (.int .i64 c.segments.l.length))),(33,true,.c (.v (.int .i64 i))),(49,true,.g [.v c.points.val,.v c.segments.val]),(51,true,.c (.v pts.val)),(53,true,.c (.v (.int .i64 y))),(57,true,.c (.v r.val)),(59,true,.c (.v (.int .i64 i))),(62,true,.c (.v (.int .i64 to))),(63,true,.c (.v o.val)),(55,true,.c (.s 1))],[(0,.box 53 [.v c.points.val,.v c.segments.val]),(1,.row 3 1 (pts.l.length+1) (pts.l.flatMap Enc.enc ++ [.int .i64 y]))],hk,2⟩ ?_ fun N7=>?_
     ·refine U_m 7 [11] ⟨?_,?_,trivial⟩
      ·refine U_b 7 0 [0] rfl rfl ?_
       simp only [go_sem,jq,jj,jy,jv,jk,jx,hallp,hallr,Option.isSome_some,Option.getD_some,true_and,Nat.zero_add,List.nil_append]
       refine zEA [0,1,2] N4 rfl rfl ?_
       refine Evs ?_
       exact Gk
      ·refine U_b 11 0 [0] rfl rfl ?_
       simp only [go_sem,jq,jj,jy,jv,jk,jx,hallp,hallr,Option.isSome_some,Option.getD_some,true_and,Nat.zero_add,List.nil_append]
       refine zEA [0,1,2] N5 rfl rfl ?_
       refine Evs ?_
       exact Gk
     refine zEw 6 #[true,true,true,true,true,true,false,true,true,false,true,false,false,true,true,false,false] ⟨[(1,true,.c (.v pts.val)),(2,true,.c (.v r.val)),(3,true,.c (.v (.int .i64 to))),(4,true,.c (.v o.val)),(5,true,.c (.p 0 0)),(10,true,.c (.v (.slice none 0 0))),(11,true,.c (.v (.int .i64 p0))),(31,true,.c (.v c.segments.val)),(32,true,.c (.v (.int .i64 c.segments.l.length))),(33,true,.c (.v (.int .i64 i))),(49,true,.g [.v c.points.val,.v c.segments.val]),(51,true,.c (.v pts.val)),(53,true,.c (.v (.int .i64 y))),(57,true,.c (.v r.val)),(59,true,.c (.v (.int .i64 i))),(62,true,.c (.v (.int .i64 to))),(63,true,.c (.v o.val)),(52,true,.c (.s 1)),(54,true,.c (.s 2)),(56,true,.c (.s 3))],[(0,.box 53 [.v c.points.val,.v c.segments.val]),(1,.row 3 1 pts.l.length (pts.l.flatMap Enc.enc)),(2,.row 3 1 1 [.int .i64 y]),(3,.row 3 1 0 [])],hk,4⟩ ?_ fun N8=>?_
     ·refine U_m 6 [11] ⟨?_,?_,trivial⟩
      ·refine U_b 6 0 [0] rfl rfl ?_
       simp only [go_sem,jq,jj,jy,jv,jk,jx,hallp,hallr,Option.isSome_some,Option.getD_some,true_and,Nat.zero_add,List.nil_append]
       refine ⟨by simp only [maxLen];omega,by omega,?_⟩
       refine zEA [0,4,3] N4 rfl rfl ?_
       refine Evs ?_
       exact Gk
      ·refine U_b 11 0 [0] rfl rfl ?_
       simp only [go_sem,jq,jj,jy,jv,jk,jx,hallp,hallr,Option.isSome_some,Option.getD_some,true_and,Nat.zero_add,List.nil_append]
       refine zEA [0,1,2,3,4] N6 rfl rfl ?_
       refine Evs ?_
       exact Gk
     refine zEw 6 #[true,true,true,true,true,true,false,false,true,false,true,true,false,true,true,false,false] ⟨[(1,true,.c (.v pts.val)),(2,true,.c (.v r.val)),(3,true,.c (.v (.int .i64 to))),(4,true,.c (.v o.val)),(5,true,.c (.p 0 0)),(10,true,.c (.v (.slice none 0 0))),(11,true,.c (.v (.int .i64 p0))),(31,true,.c (.v c.segments.val)),(32,true,.c (.v (.int .i64 c.segments.l.length))),(33,true,.c (.v (.int .i64 i))),(49,true,.g [.v c.points.val,.v c.segments.val]),(51,true,.c (.v pts.val)),(53,true,.c (.v (.int .i64 y))),(57,true,.c (.v r.val)),(59,true,.c (.v (.int .i64 i))),(62,true,.c (.v (.int .i64 to))),(63,true,.c (.v o.val)),(52,true,.c (.s 1)),(54,true,.c (.s 2)),(60,true,.c (.s 3))],[(0,.box 53 [.v c.points.val,.v c.segments.val]),(1,.row 3 1 pts.l.length (pts.l.flatMap Enc.enc)),(2,.row 3 1 1 [.int .i64 y]),(3,.row 3 1 1 [.int .i64 i])],hk,4⟩ ?_ fun N9=>?_
     ·refine U_m 6 [7] ⟨?_,?_,trivial⟩
      ·refine U_b 6 0 [0] rfl rfl ?_
       simp only [go_sem,jq,jj,jy,jv,jk,jx,hallp,hallr,Option.isSome_some,Option.getD_some,true_and,Nat.zero_add,List.nil_append]
       refine ⟨by simp only [maxLen];omega,by omega,?_⟩
       refine zEA [0,4,3] N5 rfl rfl ?_
       refine Evs ?_
       exact Gk
      ·refine U_b 7 0 [0] rfl rfl ?_
       simp only [go_sem,jq,jj,jy,jv,jk,jx,hallp,hallr,Option.isSome_some,Option.getD_some,true_and,Nat.zero_add,List.nil_append]
       refine zEA [0,1,2,4,3] N6 rfl rfl ?_
       refine Evs ?_
       exact Gk
     refine zEw 6 #[true,true,true,true,true,false,false,true,true,false,true,true,false,true,true,false,false] ⟨[(1,true,.c (.v pts.val)),(2,true,.c (.v r.val)),(3,true,.c (.v (.int .i64 to))),(4,true,.c (.v o.val)),(5,true,.c (.p 0 0)),(10,true,.c (.v (.slice none 0 0))),(11,true,.c (.v (.int .i64 p0))),(31,true,.c (.v c.segments.val)),(32,true,.c (.v (.int .i64 c.segments.l.length))),(33,true,.c (.v (.int .i64 i))),(49,true,.g [.v c.points.val,.v c.segments.val]),(51,true,.c (.v pts.val)),(53,true,.c (.v (.int .i64 y))),(57,true,.c (.v r.val)),(59,true,.c (.v (.int .i64 i))),(62,true,.c (.v (.int .i64 to))),(63,true,.c (.v o.val)),(52,true,.c (.s 1)),(56,true,.c (.s 2)),(60,true,.c (.s 3))],[(0,.box 53 [.v c.points.val,.v c.segments.val]),(1,.row 3 1 pts.l.length (pts.l.flatMap Enc.enc)),(2,.row 3 1 0 []),(3,.row 3 1 1 [.int .i64 i])],hk,4⟩ ?_ fun N10=>?_
     ·refine U_m 5 [] ⟨?_,trivial⟩
      ·refine U_b 5 0 [0] rfl rfl ?_
       simp only [go_sem,jq,jj,jy,jv,jk,jx,hallp,hallr,Option.isSome_some,Option.getD_some,true_and,Nat.zero_add,List.nil_append]
       refine zEA [0,1,4,2,3] N6 rfl rfl ?_
       refine Evs ?_
       exact Gk
     refine zEw 6 #[true,true,true,false,true,true,false,true,true,false,true,true,false,true,true,false,false] ⟨[(1,true,.c (.v pts.val)),(2,true,.c (.v r.val)),(3,true,.c (.v (.int .i64 to))),(4,true,.c (.v o.val)),(5,true,.c (.p 0 0)),(10,true,.c (.v (.slice none 0 0))),(11,true,.c (.v (.int .i64 p0))),(31,true,.c (.v c.segments.val)),(32,true,.c (.v (.int .i64 c.segments.l.length))),(33,true,.c (.v (.int .i64 i))),(49,true,.g [.v c.points.val,.v c.segments.val]),(51,true,.c (.v pts.val)),(53,true,.c (.v (.int .i64 y))),(57,true,.c (.v r.val)),(59,true,.c (.v (.int .i64 i))),(62,true,.c (.v (.int .i64 to))),(63,true,.c (.v o.val)),(50,true,.c (.s 1)),(54,true,.c (.s 2)),(56,true,.c (.s 3)),(60,true,.c (.s 4))],[(0,.box 53 [.v c.points.val,.v c.segments.val]),(1,.row 3 1 0 []),(2,.row 3 1 1 [.int .i64 y]),(3,.row 3 1 0 []),(4,.row 3 1 1 [.int .i64 i])],hk,5⟩ ?_ fun N11=>?_
     ·refine U_m 3 [] ⟨?_,trivial⟩
      ·refine U_b 3 0 [0] rfl rfl ?_
       simp only [go_sem,jq,jj,jy,jv,jk,jx,hallp,hallr,Option.isSome_some,Option.getD_some,true_and,Nat.zero_add,List.nil_append]
       refine ⟨fun u hu=>zEQ hu,by simp only [maxLen];omega,by omega,?_⟩
       refine zEA [0,5,2,3,4] N6 rfl rfl ?_
       refine Evs ?_
       exact Gk
     refine zEw 7 #[true,true,true,true,true,true,false,false,true,false,true,false,false,true,true,false,false] ⟨[(1,true,.c (.v pts.val)),(2,true,.c (.v r.val)),(3,true,.c (.v (.int .i64 to))),(4,true,.c (.v o.val)),(5,true,.c (.p 0 0)),(10,true,.c (.v (.slice none 0 0))),(11,true,.c (.v (.int .i64 p0))),(31,true,.c (.v c.segments.val)),(32,true,.c (.v (.int .i64 c.segments.l.length))),(33,true,.c (.v (.int .i64 i))),(49,true,.g [.v c.points.val,.v c.segments.val]),(51,true,.c (.v pts.val)),(53,true,.c (.v (.int .i64 y))),(57,true,.c (.v r.val)),(59,true,.c (.v (.int .i64 i))),(62,true,.c (.v (.int .i64 to))),(63,true,.c (.v o.val)),(52,true,.c (.s 1)),(54,true,.c (.s 2))],[(0,.box 53 [.v c.points.val,.v c.segments.val]),(1,.row 3 1 pts.l.length (pts.l.flatMap Enc.enc)),(2,.row 3 1 1 [.int .i64 y])],hk,3⟩ ?_ fun N12=>?_
     ·refine U_m 6 [7,11] ⟨?_,?_,?_,trivial⟩
      ·refine U_b 6 0 [0] rfl rfl ?_
       simp only [go_sem,jq,jj,jy,jv,jk,jx,hallp,hallr,Option.isSome_some,Option.getD_some,true_and,Nat.zero_add,List.nil_append]
       refine ⟨by simp only [maxLen];omega,by omega,?_⟩
       refine zEA [0,3] N7 rfl rfl ?_
       refine Evs ?_
       exact Gk
      ·refine U_b 7 0 [0] rfl rfl ?_
       simp only [go_sem,jq,jj,jy,jv,jk,jx,hallp,hallr,Option.isSome_some,Option.getD_some,true_and,Nat.zero_add,List.nil_append]
       refine zEA [0,1,2,3] N8 rfl rfl ?_
       refine Evs ?_
       exact Gk
      ·refine U_b 11 0 [0] rfl rfl ?_
       simp only [go_sem,jq,jj,jy,jv,jk,jx,hallp,hallr,Option.isSome_some,Option.getD_some,true_and,Nat.zero_add,List.nil_append]
       refine zEA [0,1,2,3] N9 rfl rfl ?_
       refine Evs ?_
       exact Gk
     refine zEw 7 #[true,true,true,true,true,false,false,true,true,false,true,false,false,true,true,false,false] ⟨[(1,true,.c (.v pts.val)),(2,true,.c (.v r.val)),(3,true,.c (.v (.int .i64 to))),(4,true,.c (.v o.val)),(5,true,.c (.p 0 0)),(10,true,.c (.v (.slice none 0 0))),(11,true,.c (.v (.int .i64 p0))),(31,true,.c (.v c.segments.val)),(32,true,.c (.v (.int .i64 c.segments.l.length))),(33,true,.c (.v (.int .i64 i))),(49,true,.g [.v c.points.val,.v c.segments.val]),(51,true,.c (.v pts.val)),(53,true,.c (.v (.int .i64 y))),(57,true,.c (.v r.val)),(59,true,.c (.v (.int .i64 i))),(62,true,.c (.v (.int .i64 to))),(63,true,.c (.v o.val)),(52,true,.c (.s 1)),(56,true,.c (.s 2))],[(0,.box 53 [.v c.points.val,.v c.segments.val]),(1,.row 3 1 pts.l.length (pts.l.flatMap Enc.enc)),(2,.row 3 1 0 [])],hk,3⟩ ?_ fun N13=>?_
     ·refine U_m 5 [11] ⟨?_,?_,trivial⟩
      ·refine U_b 5 0 [0] rfl rfl ?_
       simp only [go_sem,jq,jj,jy,jv,jk,jx,hallp,hallr,Option.isSome_some,Option.getD_some,true_and,Nat.zero_add,List.nil_append]
       refine zEA [0,1,3,2] N8 rfl rfl ?_
       refine Evs ?_
       exact Gk
      ·refine U_b 11 0 [0] rfl rfl ?_
       simp only [go_sem,jq,jj,jy,jv,jk,jx,hallp,hallr,Option.isSome_some,Option.getD_some,true_and,Nat.zero_add,List.nil_append]
       refine zEA [0,1,2,3] N10 rfl rfl ?_
       refine Evs ?_
       exact Gk
     refine zEw 7 #[true,true,true,true,true,false,false,false,true,false,true,true,false,true,true,false,false] ⟨[(1,true,.c (.v pts.val)),(2,true,.c (.v r.val)),(3,true,.c (.v (.int .i64 to))),(4,true,.c (.v o.val)),(5,true,.c (.p 0 0)),(10,true,.c (.v (.slice none 0 0))),(11,true,.c (.v (.int .i64 p0))),(31,true,.c (.v c.segments.val)),(32,true,.c (.v (.int .i64 c.segments.l.length))),(33,true,.c (.v (.int .i64 i))),(49,true,.g [.v c.points.val,.v c.segments.val]),(51,true,.c (.v pts.val)),(53,true,.c (.v (.int .i64 y))),(57,true,.c (.v r.val)),(59,true,.c (.v (.int .i64 i))),(62,true,.c (.v (.int .i64 to))),(63,true,.c (.v o.val)),(52,true,.c (.s 1)),(60,true,.c (.s 2))],[(0,.box 53 [.v c.points.val,.v c.segments.val]),(1,.row 3 1 pts.l.length (pts.l.flatMap Enc.enc)),(2,.row 3 1 1 [.int .i64 i])],hk,3⟩ ?_ fun N14=>?_
     ·refine U_m 5 [7] ⟨?_,?_,trivial⟩
      ·refine U_b 5 0 [0] rfl rfl ?_
       simp only [go_sem,jq,jj,jy,jv,jk,jx,hallp,hallr,Option.isSome_some,Option.getD_some,true_and,Nat.zero_add,List.nil_append]
       refine zEA [0,1,3,2] N9 rfl rfl ?_
       refine Evs ?_
       exact Gk
      ·refine U_b 7 0 [0] rfl rfl ?_
       simp only [go_sem,jq,jj,jy,jv,jk,jx,hallp,hallr,Option.isSome_some,Option.getD_some,true_and,Nat.zero_add,List.nil_append]
       refine zEA [0,1,3,2] N10 rfl rfl ?_
       refine Evs ?_
       exact Gk
     refine zEw 7 #[true,true,true,false,true,true,false,true,true,false,true,false,false,true,true,false,false] ⟨[(1,true,.c (.v pts.val)),(2,true,.c (.v r.val)),(3,true,.c (.v (.int .i64 to))),(4,true,.c (.v o.val)),(5,true,.c (.p 0 0)),(10,true,.c (.v (.slice none 0 0))),(11,true,.c (.v (.int .i64 p0))),(31,true,.c (.v c.segments.val)),(32,true,.c (.v (.int .i64 c.segments.l.length))),(33,true,.c (.v (.int .i64 i))),(49,true,.g [.v c.points.val,.v c.segments.val]),(51,true,.c (.v pts.val)),(53,true,.c (.v (.int .i64 y))),(57,true,.c (.v r.val)),(59,true,.c (.v (.int .i64 i))),(62,true,.c (.v (.int .i64 to))),(63,true,.c (.v o.val)),(50,true,.c (.s 1)),(54,true,.c (.s 2)),(56,true,.c (.s 3))],[(0,.box 53 [.v c.points.val,.v c.segments.val]),(1,.row 3 1 0 []),(2,.row 3 1 1 [.int .i64 y]),(3,.row 3 1 0 [])],hk,4⟩ ?_ fun N15=>?_
     ·refine U_m 3 [11] ⟨?_,?_,trivial⟩
      ·refine U_b 3 0 [0] rfl rfl ?_
       simp only [go_sem,jq,jj,jy,jv,jk,jx,hallp,hallr,Option.isSome_some,Option.getD_some,true_and,Nat.zero_add,List.nil_append]
       refine ⟨fun u hu=>zEQ hu,by simp only [maxLen];omega,by omega,?_⟩
       refine zEA [0,4,2,3] N8 rfl rfl ?_
       refine Evs ?_
       exact Gk
      ·refine U_b 11 0 [0] rfl rfl ?_
       simp only [go_sem,jq,jj,jy,jv,jk,jx,hallp,hallr,Option.isSome_some,Option.getD_some,true_and,Nat.zero_add,List.nil_append]
       refine zEA [0,1,2,3,4] N11 rfl rfl ?_
       refine Evs ?_
       exact Gk
     refine zEw 7 #[true,true,true,false,true,true,false,false,true,false,true,true,false,true,true,false,false] ⟨[(1,true,.c (.v pts.val)),(2,true,.c (.v r.val)),(3,true,.c (.v (.int .i64 to))),(4,true,.c (.v o.val)),(5,true,.c (.p 0 0)),(10,true,.c (.v (.slice none 0 0))),(11,true,.c (.v (.int .i64 p0))),(31,true,.c (.v c.segments.val)),(32,true,.c (.v (.int .i64 c.segments.l.length))),(33,true,.c (.v (.int .i64 i))),(49,true,.g [.v c.points.val,.v c.segments.val]),(51,true,.c (.v pts.val)),(53,true,.c (.v (.int .i64 y))),(57,true,.c (.v r.val)),(59,true,.c (.v (.int .i64 i))),(62,true,.c (.v (.int .i64 to))),(63,true,.c (.v o.val)),(50,true,.c (.s 1)),(54,true,.c (.s 2)),(60,true,.c (.s 3))],[(0,.box 53 [.v c.points.val,.v c.segments.val]),(1,.row 3 1 0 []),(2,.row 3 1 1 [.int .i64 y]),(3,.row 3 1 1 [.int .i64 i])],hk,4⟩ ?_ fun N16=>?_
     ·refine U_m 3 [7] ⟨?_,?_,trivial⟩
      ·refine U_b 3 0 [0] rfl rfl ?_
       simp only [go_sem,jq,jj,jy,jv,jk,jx,hallp,hallr,Option.isSome_some,Option.getD_some,true_and,Nat.zero_add,List.nil_append]
       refine ⟨fun u hu=>zEQ hu,by simp only [maxLen];omega,by omega,?_⟩
       refine zEA [0,4,2,3] N9 rfl rfl ?_
       refine Evs ?_
       exact Gk
      ·refine U_b 7 0 [0] rfl rfl ?_
       simp only [go_sem,jq,jj,jy,jv,jk,jx,hallp,hallr,Option.isSome_some,Option.getD_some,true_and,Nat.zero_add,List.nil_append]
       refine zEA [0,1,2,4,3] N11 rfl rfl ?_
       refine Evs ?_
       exact Gk
     refine zEw 7 #[true,true,true,false,true,false,false,true,true,false,true,true,false,true,true,false,false] ⟨[(1,true,.c (.v pts.val)),(2,true,.c (.v r.val)),(3,true,.c (.v (.int .i64 to))),(4,true,.c (.v o.val)),(5,true,.c (.p 0 0)),(10,true,.c (.v (.slice none 0 0))),(11,true,.c (.v (.int .i64 p0))),(31,true,.c (.v c.segments.val)),(32,true,.c (.v (.int .i64 c.segments.l.length))),(33,true,.c (.v (.int .i64 i))),(49,true,.g [.v c.points.val,.v c.segments.val]),(51,true,.c (.v pts.val)),(53,true,.c (.v (.int .i64 y))),(57,true,.c (.v r.val)),(59,true,.c (.v (.int .i64 i))),(62,true,.c (.v (.int .i64 to))),(63,true,.c (.v o.val)),(50,true,.c (.s 1)),(56,true,.c (.s 2)),(60,true,.c (.s 3))],[(0,.box 53 [.v c.points.val,.v c.segments.val]),(1,.row 3 1 0 []),(2,.row 3 1 0 []),(3,.row 3 1 1 [.int .i64 i])],hk,4⟩ ?_ fun N17=>?_
     ·refine U_m 3 [5] ⟨?_,?_,trivial⟩
      ·refine U_b 3 0 [0] rfl rfl ?_
       simp only [go_sem,jq,jj,jy,jv,jk,jx,hallp,hallr,Option.isSome_some,Option.getD_some,true_and,Nat.zero_add,List.nil_append]
       refine ⟨fun u hu=>zEQ hu,by simp only [maxLen];omega,by omega,?_⟩
       refine zEA [0,4,2,3] N10 rfl rfl ?_
       refine Evs ?_
       exact Gk
      ·refine U_b 5 0 [0] rfl rfl ?_
       simp only [go_sem,jq,jj,jy,jv,jk,jx,hallp,hallr,Option.isSome_some,Option.getD_some,true_and,Nat.zero_add,List.nil_append]
       refine zEA [0,1,4,2,3] N11 rfl rfl ?_
       refine Evs ?_
       exact Gk
     refine zEw 7 #[true,false,true,false,true,true,false,true,true,false,true,true,false,true,true,false,false] ⟨[(1,true,.c (.v pts.val)),(2,true,.c (.v r.val)),(3,true,.c (.v (.int .i64 to))),(4,true,.c (.v o.val)),(5,true,.c (.p 0 0)),(10,true,.c (.v (.slice none 0 0))),(11,true,.c (.v (.int .i64 p0))),(31,true,.c (.v c.segments.val)),(32,true,.c (.v (.int .i64 c.segments.l.length))),(33,true,.c (.v (.int .i64 i))),(49,true,.g [.v c.points.val,.v c.segments.val]),(51,true,.c (.v pts.val)),(53,true,.c (.v (.int .i64 y))),(57,true,.c (.v r.val)),(59,true,.c (.v (.int .i64 i))),(62,true,.c (.v (.int .i64 to))),(63,true,.c (.v o.val)),(54,true,.c (.s 1)),(56,true,.c (.s 2)),(60,true,.c (.s 3))],[(0,.box 53 [.v c.points.val,.v c.segments.val]),(1,.row 3 1 1 [.int .i64 y]),(2,.row 3 1 0 []),(3,.row 3 1 1 [.int .i64 i])],hk,4⟩ ?_ fun N18=>?_
     ·refine U_m 1 [] ⟨?_,trivial⟩
      ·refine U_b 1 0 [0] rfl rfl ?_
       simp only [go_sem,jq,jj,jy,jv,jk,jx,hallp,hallr,Option.isSome_some,Option.getD_some,true_and,Nat.zero_add,List.nil_append]
       refine zEA [0,4,1,2,3] N11 rfl rfl ?_
       refine Evs ?_
       exact Gk
     refine zEw 8 #[true,true,true,true,true,false,false,false,true,false,true,false,false,true,true,false,false] ⟨[(1,true,.c (.v pts.val)),(2,true,.c (.v r.val)),(3,true,.c (.v (.int .i64 to))),(4,true,.c (.v o.val)),(5,true,.c (.p 0 0)),(10,true,.c (.v (.slice none 0 0))),(11,true,.c (.v (.int .i64 p0))),(31,true,.c (.v c.segments.val)),(32,true,.c (.v (.int .i64 c.segments.l.length))),(33,true,.c (.v (.int .i64 i))),(49,true,.g [.v c.points.val,.v c.segments.val]),(51,true,.c (.v pts.val)),(53,true,.c (.v (.int .i64 y))),(57,true,.c (.v r.val)),(59,true,.c (.v (.int .i64 i))),(62,true,.c (.v (.int .i64 to))),(63,true,.c (.v o.val)),(52,true,.c (.s 1))],[(0,.box 53 [.v c.points.val,.v c.segments.val]),(1,.row 3 1 pts.l.length (pts.l.flatMap Enc.enc))],hk,2⟩ ?_ fun N19=>?_
     ·refine U_m 5 [7,11] ⟨?_,?_,?_,trivial⟩
      ·refine U_b 5 0 [0] rfl rfl ?_
       simp only [go_sem,jq,jj,jy,jv,jk,jx,hallp,hallr,Option.isSome_some,Option.getD_some,true_and,Nat.zero_add,List.nil_append]
       refine zEA [0,1,2] N12 rfl rfl ?_
       refine Evs ?_
       exact Gk
      ·refine U_b 7 0 [0] rfl rfl ?_
       simp only [go_sem,jq,jj,jy,jv,jk,jx,hallp,hallr,Option.isSome_some,Option.getD_some,true_and,Nat.zero_add,List.nil_append]
       refine zEA [0,1,2] N13 rfl rfl ?_
       refine Evs ?_
       exact Gk
      ·refine U_b 11 0 [0] rfl rfl ?_
       simp only [go_sem,jq,jj,jy,jv,jk,jx,hallp,hallr,Option.isSome_some,Option.getD_some,true_and,Nat.zero_add,List.nil_append]
       refine zEA [0,1,2] N14 rfl rfl ?_
       refine Evs ?_
       exact Gk
     refine zEw 8 #[true,true,true,false,true,true,false,false,true,false,true,false,false,true,true,false,false] ⟨[(1,true,.c (.v pts.val)),(2,true,.c (.v r.val)),(3,true,.c (.v (.int .i64 to))),(4,true,.c (.v o.val)),(5,true,.c (.p 0 0)),(10,true,.c (.v (.slice none 0 0))),(11,true,.c (.v (.int .i64 p0))),(31,true,.c (.v c.segments.val)),(32,true,.c (.v (.int .i64 c.segments.l.length))),(33,true,.c (.v (.int .i64 i))),(49,true,.g [.v c.points.val,.v c.segments.val]),(51,true,.c (.v pts.val)),(53,true,.c (.v (.int .i64 y))),(57,true,.c (.v r.val)),(59,true,.c (.v (.int .i64 i))),(62,true,.c (.v (.int .i64 to))),(63,true,.c (.v o.val)),(50,true,.c (.s 1)),(54,true,.c (.s 2))],[(0,.box 53 [.v c.points.val,.v c.segments.val]),(1,.row 3 1 0 []),(2,.row 3 1 1 [.int .i64 y])],hk,3⟩ ?_ fun N20=>?_
     ·refine U_m 3 [7,11] ⟨?_,?_,?_,trivial⟩
      ·refine U_b 3 0 [0] rfl rfl ?_
       simp only [go_sem,jq,jj,jy,jv,jk,jx,hallp,hallr,Option.isSome_some,Option.getD_some,true_and,Nat.zero_add,List.nil_append]
       refine ⟨fun u hu=>zEQ hu,by simp only [maxLen];omega,by omega,?_⟩
       refine zEA [0,3,2] N12 rfl rfl ?_
       refine Evs ?_
       exact Gk
      ·refine U_b 7 0 [0] rfl rfl ?_
       simp only [go_sem,jq,jj,jy,jv,jk,jx,hallp,hallr,Option.isSome_some,Option.getD_some,true_and,Nat.zero_add,List.nil_append]
       refine zEA [0,1,2,3] N15 rfl rfl ?_
       refine Evs ?_
       exact Gk
      ·refine U_b 11 0 [0] rfl rfl ?_
       simp only [go_sem,jq,jj,jy,jv,jk,jx,hallp,hallr,Option.isSome_some,Option.getD_some,true_and,Nat.zero_add,List.nil_append]
       refine zEA [0,1,2,3] N16 rfl rfl ?_
       refine Evs ?_
       exact Gk
     refine zEw 8 #[true,true,true,false,true,false,false,true,true,false,true,false,false,true,true,false,false] ⟨[(1,true,.c (.v pts.val)),(2,true,.c (.v r.val)),(3,true,.c (.v (.int .i64 to))),(4,true,.c (.v o.val)),(5,true,.c (.p 0 0)),(10,true,.c (.v (.slice none 0 0))),(11,true,.c (.v (.int .i64 p0))),(31,true,.c (.v c.segments.val)),(32,true,.c (.v (.int .i64 c.segments.l.length))),(33,true,.c (.v (.int .i64 i))),(49,true,.g [.v c.points.val,.v c.segments.val]),(51,true,.c (.v pts.val)),(53,true,.c (.v (.int .i64 y))),(57,true,.c (.v r.val)),(59,true,.c (.v (.int .i64 i))),(62,true,.c (.v (.int .i64 to))),(63,true,.c (.v o.val)),(50,true,.c (.s 1)),(56,true,.c (.s 2))],[(0,.box 53 [.v c.points.val,.v c.segments.val]),(1,.row 3 1 0 []),(2,.row 3 1 0 [])],hk,3⟩ ?_ fun N21=>?_
     ·refine U_m 3 [5,11] ⟨?_,?_,?_,trivial⟩
      ·refine U_b 3 0 [0] rfl rfl ?_
       simp only [go_sem,jq,jj,jy,jv,jk,jx,hallp,hallr,Option.isSome_some,Option.getD_some,true_and,Nat.zero_add,List.nil_append]
       refine ⟨fun u hu=>zEQ hu,by simp only [maxLen];omega,by omega,?_⟩
       refine zEA [0,3,2] N13 rfl rfl ?_
       refine Evs ?_
       exact Gk
      ·refine U_b 5 0 [0] rfl rfl ?_
       simp only [go_sem,jq,jj,jy,jv,jk,jx,hallp,hallr,Option.isSome_some,Option.getD_some,true_and,Nat.zero_add,List.nil_append]
       refine zEA [0,1,3,2] N15 rfl rfl ?_
       refine Evs ?_
       exact Gk
      ·refine U_b 11 0 [0] rfl rfl ?_
       simp only [go_sem,jq,jj,jy,jv,jk,jx,hallp,hallr,Option.isSome_some,Option.getD_some,true_and,Nat.zero_add,List.nil_append]
       refine zEA [0,1,2,3] N17 rfl rfl ?_
       refine Evs ?_
       exact Gk
     refine zEw 8 #[true,true,true,false,true,false,false,false,true,false,true,true,false,true,true,false,false] ⟨[(1,true,.c (.v pts.val)),(2,true,.c (.v r.val)),(3,true,.c (.v (.int .i64 to))),(4,true,.c (.v o.val)),(5,true,.c (.p 0 0)),(10,true,.c (.v (.slice none 0 0))),(11,true,.c (.v (.int .i64 p0))),(31,true,.c (.v c.segments.val)),(32,true,.c (.v (.int .i64 c.segments.l.length))),(33,true,.c (.v (.int .i64 i))),(49,true,.g [.v c.points.val,.v c.segments.val]),(51,true,.c (.v pts.val)),(53,true,.c (.v (.int .i64 y))),(57,true,.c (.v r.val)),(59,true,.c (.v (.int .i64 i))),(62,true,.c (.v (.int .i64 to))),(63,true,.c (.v o.val)),(50,true,.c (.s 1)),(60,true,.c (.s 2))],[(0,.box 53 [.v c.points.val,.v c.segments.val]),(1,.row 3 1 0 []),(2,.row 3 1 1 [.int .i64 i])],hk,3⟩ ?_ fun N22=>?_
     ·refine U_m 3 [5,7] ⟨?_,?_,?_,trivial⟩
      ·refine U_b 3 0 [0] rfl rfl ?_
       simp only [go_sem,jq,jj,jy,jv,jk,jx,hallp,hallr,Option.isSome_some,Option.getD_some,true_and,Nat.zero_add,List.nil_append]
       refine ⟨fun u hu=>zEQ hu,by simp only [maxLen];omega,by omega,?_⟩
       refine zEA [0,3,2] N14 rfl rfl ?_
       refine Evs ?_
       exact Gk
      ·refine U_b 5 0 [0] rfl rfl ?_
       simp only [go_sem,jq,jj,jy,jv,jk,jx,hallp,hallr,Option.isSome_some,Option.getD_some,true_and,Nat.zero_add,List.nil_append]
       refine zEA [0,1,3,2] N16 rfl rfl ?_
       refine Evs ?_
       exact Gk
      ·refine U_b 7 0 [0] rfl rfl ?_
       simp only [go_sem,jq,jj,jy,jv,jk,jx,hallp,hallr,Option.isSome_some,Option.getD_some,true_and,Nat.zero_add,List.nil_append]
       refine zEA [0,1,3,2] N17 rfl rfl ?_
       refine Evs ?_
       exact Gk
     refine zEw 8 #[true,false,true,false,true,true,false,true,true,false,true,false,false,true,true,false,false] ⟨[(1,true,.c (.v pts.val)),(2,true,.c (.v r.val)),(3,true,.c (.v (.int .i64 to))),(4,true,.c (.v o.val)),(5,true,.c (.p 0 0)),(10,true,.c (.v (.slice none 0 0))),(11,true,.c (.v (.int .i64 p0))),(31,true,.c (.v c.segments.val)),(32,true,.c (.v (.int .i64 c.segments.l.length))),(33,true,.c (.v (.int .i64 i))),(49,true,.g [.v c.points.val,.v c.segments.val]),(51,true,.c (.v pts.val)),(53,true,.c (.v (.int .i64 y))),(57,true,.c (.v r.val)),(59,true,.c (.v (.int .i64 i))),(62,true,.c (.v (.int .i64 to))),(63,true,.c (.v o.val)),(54,true,.c (.s 1)),(56,true,.c (.s 2))],[(0,.box 53 [.v c.points.val,.v c.segments.val]),(1,.row 3 1 1 [.int .i64 y]),(2,.row 3 1 0 [])],hk,3⟩ ?_ fun N23=>?_
     ·refine U_m 1 [11] ⟨?_,?_,trivial⟩
      ·refine U_b 1 0 [0] rfl rfl ?_
       simp only [go_sem,jq,jj,jy,jv,jk,jx,hallp,hallr,Option.isSome_some,Option.getD_some,true_and,Nat.zero_add,List.nil_append]
       refine zEA [0,3,1,2] N15 rfl rfl ?_
       refine Evs ?_
       exact Gk
      ·refine U_b 11 0 [0] rfl rfl ?_
       simp only [go_sem,jq,jj,jy,jv,jk,jx,hallp,hallr,Option.isSome_some,Option.getD_some,true_and,Nat.zero_add,List.nil_append]
       refine zEA [0,1,2,3] N18 rfl rfl ?_
       refine Evs ?_
       exact Gk
     refine zEw 8 #[true,false,true,false,true,true,false,false,true,false,true,true,false,true,true,false,false] ⟨[(1,true,.c (.v pts.val)),(2,true,.c (.v r.val)),(3,true,.c (.v (.int .i64 to))),(4,true,.c (.v o.val)),(5,true,.c (.p 0 0)),(10,true,.c (.v (.slice none 0 0))),(11,true,.c (.v (.int .i64 p0))),(31,true,.c (.v c.segments.val)),(32,true,.c (.v (.int .i64 c.segments.l.length))),(33,true,.c (.v (.int .i64 i))),(49,true,.g [.v c.points.val,.v c.segments.val]),(51,true,.c (.v pts.val)),(53,true,.c (.v (.int .i64 y))),(57,true,.c (.v r.val)),(59,true,.c (.v (.int .i64 i))),(62,true,.c (.v (.int .i64 to))),(63,true,.c (.v o.val)),(54,true,.c (.s 1)),(60,true,.c (.s 2))],[(0,.box 53 [.v c.points.val,.v c.segments.val]),(1,.row 3 1 1 [.int .i64 y]),(2,.row 3 1 1 [.int .i64 i])],hk,3⟩ ?_ fun N24=>?_
     ·refine U_m 1 [7] ⟨?_,?_,trivial⟩
      ·refine U_b 1 0 [0] rfl rfl ?_
       simp only [go_sem,jq,jj,jy,jv,jk,jx,hallp,hallr,Option.isSome_some,Option.getD_some,true_and,Nat.zero_add,List.nil_append]
       refine zEA [0,3,1,2] N16 rfl rfl ?_
       refine Evs ?_
       exact Gk
      ·refine U_b 7 0 [0] rfl rfl ?_
       simp only [go_sem,jq,jj,jy,jv,jk,jx,hallp,hallr,Option.isSome_some,Option.getD_some,true_and,Nat.zero_add,List.nil_append]
       refine zEA [0,1,3,2] N18 rfl rfl ?_
       refine Evs ?_
       exact Gk
     refine zEw 8 #[true,false,true,false,true,false,false,true,true,false,true,true,false,true,true,false,false] ⟨[(1,true,.c (.v pts.val)),(2,true,.c (.v r.val)),(3,true,.c (.v (.int .i64 to))),(4,true,.c (.v o.val)),(5,true,.c (.p 0 0)),(10,true,.c (.v (.slice none 0 0))),(11,true,.c (.v (.int .i64 p0))),(31,true,.c (.v c.segments.val)),(32,true,.c (.v (.int .i64 c.segments.l.length))),(33,true,.c (.v (.int .i64 i))),(49,true,.g [.v c.points.val,.v c.segments.val]),(51,true,.c (.v pts.val)),(53,true,.c (.v (.int .i64 y))),(57,true,.c (.v r.val)),(59,true,.c (.v (.int .i64 i))),(62,true,.c (.v (.int .i64 to))),(63,true,.c (.v o.val)),(56,true,.c (.s 1)),(60,true,.c (.s 2))],[(0,.box 53 [.v c.points.val,.v c.segments.val]),(1,.row 3 1 0 []),(2,.row 3 1 1 [.int .i64 i])],hk,3⟩ ?_ fun N25=>?_
     ·refine U_m 1 [5] ⟨?_,?_,trivial⟩
      ·refine U_b 1 0 [0] rfl rfl ?_
       simp only [go_sem,jq,jj,jy,jv,jk,jx,hallp,hallr,Option.isSome_some,Option.getD_some,true_and,Nat.zero_add,List.nil_append]
       refine zEA [0,3,1,2] N17 rfl rfl ?_
       refine Evs ?_
       exact Gk
      ·refine U_b 5 0 [0] rfl rfl ?_
       simp only [go_sem,jq,jj,jy,jv,jk,jx,hallp,hallr,Option.isSome_some,Option.getD_some,true_and,Nat.zero_add,List.nil_append]
       refine zEA [0,3,1,2] N18 rfl rfl ?_
       refine Evs ?_
       exact Gk
     refine zEw 9 #[true,true,true,false,true,false,false,false,true,false,true,false,false,true,true,false,false] ⟨[(1,true,.c (.v pts.val)),(2,true,.c (.v r.val)),(3,true,.c (.v (.int .i64 to))),(4,true,.c (.v o.val)),(5,true,.c (.p 0 0)),(10,true,.c (.v (.slice none 0 0))),(11,true,.c (.v (.int .i64 p0))),(31,true,.c (.v c.segments.val)),(32,true,.c (.v (.int .i64 c.segments.l.length))),(33,true,.c (.v (.int .i64 i))),(49,true,.g [.v c.points.val,.v c.segments.val]),(51,true,.c (.v pts.val)),(53,true,.c (.v (.int .i64 y))),(57,true,.c (.v r.val)),(59,true,.c (.v (.int .i64 i))),(62,true,.c (.v (.int .i64 to))),(63,true,.c (.v o.val)),(50,true,.c (.s 1))],[(0,.box 53 [.v c.points.val,.v c.segments.val]),(1,.row 3 1 0 [])],hk,2⟩ ?_ fun N26=>?_
     ·refine U_m 3 [5,7,11] ⟨?_,?_,?_,?_,trivial⟩
      ·refine U_b 3 0 [0] rfl rfl ?_
       simp only [go_sem,jq,jj,jy,jv,jk,jx,hallp,hallr,Option.isSome_some,Option.getD_some,true_and,Nat.zero_add,List.nil_append]
       refine ⟨fun u hu=>zEQ hu,by simp only [maxLen];omega,by omega,?_⟩
       refine zEA [0,2] N19 rfl rfl ?_
       refine Evs ?_
       exact Gk
      ·refine U_b 5 0 [0] rfl rfl ?_
       simp only [go_sem,jq,jj,jy,jv,jk,jx,hallp,hallr,Option.isSome_some,Option.getD_some,true_and,Nat.zero_add,List.nil_append]
       refine zEA [0,1,2] N20 rfl rfl ?_
       refine Evs ?_
       exact Gk
      ·refine U_b 7 0 [0] rfl rfl ?_
       simp only [go_sem,jq,jj,jy,jv,jk,jx,hallp,hallr,Option.isSome_some,Option.getD_some,true_and,Nat.zero_add,List.nil_append]
       refine zEA [0,1,2] N21 rfl rfl ?_
       refine Evs ?_
       exact Gk
      ·refine U_b 11 0 [0] rfl rfl ?_
       simp only [go_sem,jq,jj,jy,jv,jk,jx,hallp,hallr,Option.isSome_some,Option.getD_some,true_and,Nat.zero_add,List.nil_append]
       refine zEA [0,1,2] N22 rfl rfl ?_
       refine Evs ?_
       exact Gk
     refine zEw 9 #[true,false,true,false,true,true,false,false,true,false,true,false,false,true,true,false,false] ⟨[(1,true,.c (.v pts.val)),(2,true,.c (.v r.val)),(3,true,.c (.v (.int .i64 to))),(4,true,.c (.v o.val)),(5,true,.c (.p 0 0)),(10,true,.c (.v (.slice none 0 0))),(11,true,.c (.v (.int .i64 p0))),(31,true,.c (.v c.segments.val)),(32,true,.c (.v (.int .i64 c.segments.l.length))),(33,true,.c (.v (.int .i64 i))),(49,true,.g [.v c.points.val,.v c.segments.val]),(51,true,.c (.v pts.val)),(53,true,.c (.v (.int .i64 y))),(57,true,.c (.v r.val)),(59,true,.c (.v (.int .i64 i))),(62,true,.c (.v (.int .i64 to))),(63,true,.c (.v o.val)),(54,true,.c (.s 1))],[(0,.box 53 [.v c.points.val,.v c.segments.val]),(1,.row 3 1 1 [.int .i64 y])],hk,2⟩ ?_ fun N27=>?_
     ·refine U_m 1 [7,11] ⟨?_,?_,?_,trivial⟩
      ·refine U_b 1 0 [0] rfl rfl ?_
       simp only [go_sem,jq,jj,jy,jv,jk,jx,hallp,hallr,Option.isSome_some,Option.getD_some,true_and,Nat.zero_add,List.nil_append]
       refine zEA [0,2,1] N20 rfl rfl ?_
       refine Evs ?_
       exact Gk
      ·refine U_b 7 0 [0] rfl rfl ?_
       simp only [go_sem,jq,jj,jy,jv,jk,jx,hallp,hallr,Option.isSome_some,Option.getD_some,true_and,Nat.zero_add,List.nil_append]
       refine zEA [0,1,2] N23 rfl rfl ?_
       refine Evs ?_
       exact Gk
      ·refine U_b 11 0 [0] rfl rfl ?_
       simp only [go_sem,jq,jj,jy,jv,jk,jx,hallp,hallr,Option.isSome_some,Option.getD_some,true_and,Nat.zero_add,List.nil_append]
       refine zEA [0,1,2] N24 rfl rfl ?_
       refine Evs ?_
       exact Gk
     refine zEw 9 #[true,false,true,false,true,false,false,true,true,false,true,false,false,true,true,false,false] ⟨[(1,true,.c (.v pts.val)),(2,true,.c (.v r.val)),(3,true,.c (.v (.int .i64 to))),(4,true,.c (.v o.val)),(5,true,.c (.p 0 0)),(10,true,.c (.v (.slice none 0 0))),(11,true,.c (.v (.int .i64 p0))),(31,true,.c (.v c.segments.val)),(32,true,.c (.v (.int .i64 c.segments.l.length))),(33,true,.c (.v (.int .i64 i))),(49,true,.g [.v c.points.val,.v c.segments.val]),(51,true,.c (.v pts.val)),(53,true,.c (.v (.int .i64 y))),(57,true,.c (.v r.val)),(59,true,.c (.v (.int .i64 i))),(62,true,.c (.v (.int .i64 to))),(63,true,.c (.v o.val)),(56,true,.c (.s 1))],[(0,.box 53 [.v c.points.val,.v c.segments.val]),(1,.row 3 1 0 [])],hk,2⟩ ?_ fun N28=>?_
     ·refine U_m 1 [5,11] ⟨?_,?_,?_,trivial⟩
      ·refine U_b 1 0 [0] rfl rfl ?_
       simp only [go_sem,jq,jj,jy,jv,jk,jx,hallp,hallr,Option.isSome_some,Option.getD_some,true_and,Nat.zero_add,List.nil_append]
       refine zEA [0,2,1] N21 rfl rfl ?_
       refine Evs ?_
       exact Gk
      ·refine U_b 5 0 [0] rfl rfl ?_
       simp only [go_sem,jq,jj,jy,jv,jk,jx,hallp,hallr,Option.isSome_some,Option.getD_some,true_and,Nat.zero_add,List.nil_append]
       refine zEA [0,2,1] N23 rfl rfl ?_
       refine Evs ?_
       exact Gk
      ·refine U_b 11 0 [0] rfl rfl ?_
       simp only [go_sem,jq,jj,jy,jv,jk,jx,hallp,hallr,Option.isSome_some,Option.getD_some,true_and,Nat.zero_add,List.nil_append]
       refine zEA [0,1,2] N25 rfl rfl ?_
       refine Evs ?_
       exact Gk
     refine zEw 9 #[true,false,true,false,true,false,false,false,true,false,true,true,false,true,true,false,false] ⟨[(1,true,.c (.v pts.val)),(2,true,.c (.v r.val)),(3,true,.c (.v (.int .i64 to))),(4,true,.c (.v o.val)),(5,true,.c (.p 0 0)),(10,true,.c (.v (.slice none 0 0))),(11,true,.c (.v (.int .i64 p0))),(31,true,.c (.v c.segments.val)),(32,true,.c (.v (.int .i64 c.segments.l.length))),(33,true,.c (.v (.int .i64 i))),(49,true,.g [.v c.points.val,.v c.segments.val]),(51,true,.c (.v pts.val)),(53,true,.c (.v (.int .i64 y))),(57,true,.c (.v r.val)),(59,true,.c (.v (.int .i64 i))),(62,true,.c (.v (.int .i64 to))),(63,true,.c (.v o.val)),(60,true,.c (.s 1))],[(0,.box 53 [.v c.points.val,.v c.segments.val]),(1,.row 3 1 1 [.int .i64 i])],hk,2⟩ ?_ fun N29=>?_
     ·refine U_m 1 [5,7] ⟨?_,?_,?_,trivial⟩
      ·refine U_b 1 0 [0] rfl rfl ?_
       simp only [go_sem,jq,jj,jy,jv,jk,jx,hallp,hallr,Option.isSome_some,Option.getD_some,true_and,Nat.zero_add,List.nil_append]
       refine zEA [0,2,1] N22 rfl rfl ?_
       refine Evs ?_
       exact Gk
      ·refine U_b 5 0 [0] rfl rfl ?_
       simp only [go_sem,jq,jj,jy,jv,jk,jx,hallp,hallr,Option.isSome_some,Option.getD_some,true_and,Nat.zero_add,List.nil_append]
       refine zEA [0,2,1] N24 rfl rfl ?_
       refine Evs ?_
       exact Gk
      ·refine U_b 7 0 [0] rfl rfl ?_
       simp only [go_sem,jq,jj,jy,jv,jk,jx,hallp,hallr,Option.isSome_some,Option.getD_some,true_and,Nat.zero_add,List.nil_append]
       refine zEA [0,2,1] N25 rfl rfl ?_
       refine Evs ?_
       exact Gk
     refine zEw 10 #[true,false,true,false,true,false,false,false,true,false,true,false,false,true,true,false,false] ⟨[(1,true,.c (.v pts.val)),(2,true,.c (.v r.val)),(3,true,.c (.v (.int .i64 to))),(4,true,.c (.v o.val)),(5,true,.c (.p 0 0)),(10,true,.c (.v (.slice none 0 0))),(11,true,.c (.v (.int .i64 p0))),(31,true,.c (.v c.segments.val)),(32,true,.c (.v (.int .i64 c.segments.l.length))),(33,true,.c (.v (.int .i64 i))),(49,true,.g [.v c.points.val,.v c.segments.val]),(51,true,.c (.v pts.val)),(53,true,.c (.v (.int .i64 y))),(57,true,.c (.v r.val)),(59,true,.c (.v (.int .i64 i))),(62,true,.c (.v (.int .i64 to))),(63,true,.c (.v o.val))],[(0,.box 53 [.v c.points.val,.v c.segments.val])],hk,1⟩ ?_ fun N30=>?_
     ·refine U_m 1 [5,7,11] ⟨?_,?_,?_,?_,trivial⟩
      ·refine U_b 1 0 [0] rfl rfl ?_
       simp only [go_sem,jq,jj,jy,jv,jk,jx,hallp,hallr,Option.isSome_some,Option.getD_some,true_and,Nat.zero_add,List.nil_append]
       refine zEA [0,1] N26 rfl rfl ?_
       refine Evs ?_
       exact Gk
      ·refine U_b 5 0 [0] rfl rfl ?_
       simp only [go_sem,jq,jj,jy,jv,jk,jx,hallp,hallr,Option.isSome_some,Option.getD_some,true_and,Nat.zero_add,List.nil_append]
       refine zEA [0,1] N27 rfl rfl ?_
       refine Evs ?_
       exact Gk
      ·refine U_b 7 0 [0] rfl rfl ?_
       simp only [go_sem,jq,jj,jy,jv,jk,jx,hallp,hallr,Option.isSome_some,Option.getD_some,true_and,Nat.zero_add,List.nil_append]
       refine zEA [0,1] N28 rfl rfl ?_
       refine Evs ?_
       exact Gk
      ·refine U_b 11 0 [0] rfl rfl ?_
       simp only [go_sem,jq,jj,jy,jv,jk,jx,hallp,hallr,Option.isSome_some,Option.getD_some,true_and,Nat.zero_add,List.nil_append]
       refine zEA [0,1] N29 rfl rfl ?_
       refine Evs ?_
       exact Gk
     refine zEA [0] N30 rfl rfl ?_
     refine Evs ?_
     exact Gk
    ·have hz:¬ (0≤y∧y ∉ pts.l):=fun H=>by
      rw [decide_eq_false H.2] at hz
      rcases Bool.and_eq_false_iff.1 hz with e|e
      ·exact of_decide_eq_false e H.1
      ·cases e
     rw [if_neg hz] at hat
     refine Wk ?_
     refine ⟨(hk,o),[0],⟨hWk,hfr,hle,by rw [hl];simp [List.flatMap_append,hat]⟩,?_⟩
     refine Evs ?_
     exact Gk
   rintro ⟨h3,o3⟩ ⟨W3,f3,l3,e3⟩
   simp only at W3 f3 l3 e3
   refine Wk ?_
   refine ⟨(i+1,h3,o3),[0],⟨hlt,W3,f3,l3,e3⟩,by simp only;omega,?_⟩
   refine Evs ?_
   exact Gi (zjA hlt (by omega))
  ·have hge:=zjI hd
   obtain rfl:i=c.segments.l.length:=by omega
   refine Wk ?_
   exact ⟨o,rfl,hl,hWk,hfr,hle⟩
theorem zES (a:Sl Int) (h:Hp) (ha:a.Ok h) (hz:a.l.length≤1048576):Ct jV 79 [a.val] h fun v h'=>∃ s:Sl Int,v=s.val∧s.l=a.l∧RowAt 3 h' s∧∀ g,s.a=some ⟨g,0,none⟩→h g=none:=by
 have hall:=ha.all (by decide)
 have hd:(h.ldL a.val 1).isSome=true:=by rw [show h.ldL a.val 1=_ from hall];rfl
 refine zdn (fun A W=>by simp) Tryz.func79 rfl rfl (by simp) fun W0=>?_
 repeat' first|refine Wa ?_|(simp only [go_sem,jq,jj,jy,jv,jk,jx,hall,show h.ldL a.val 1=some (a.l.flatMap Enc.enc) from hall,Option.isSome_some,Option.getD_some];try rfl)|refine Wb ?_|fail
 refine ⟨by simp only [maxLen];omega,by omega,?_⟩
 repeat' first|refine Wa ?_|(simp only [go_sem,jq,jj,jy,jv,jk,jx,hall,show h.ldL a.val 1=some (a.l.flatMap Enc.enc) from hall,Option.isSome_some,Option.getD_some];try rfl)|refine Wb ?_|fail
 refine ⟨fun u hu=>by obtain ⟨x,_,hx⟩:=List.mem_flatMap.1 hu;exact Enc.one x u hx,by simp only [maxLen];omega,by omega,?_⟩
 refine zCP 1 a.l rfl rfl (Nat.zero_add _) rfl fun s h' e1 R f1 l1 k1=>?_
 refine Wk ?_
 exact ⟨s,rfl,e1,R,f1⟩
theorem zET {l:List Int}:List.take 8 (metC l)=metC l:=List.take_of_length_le (by rw [zDB];exact Nat.le_refl _)
theorem zEU {l:List Int}:List.map SC.v (metV l)=metC l:=rfl
theorem zEV {l:List Int} {p:List (Nat × PB)}:((metC l).all fun x=>SC.okc p x)=true:=by
 rw [List.all_eq_true];intro x hx
 simp only [metC,metV,List.map_map,List.mem_map] at hx
 obtain ⟨j,_,rfl⟩:=hx
 rfl
theorem zEW {l:List Int} {r:Nat} {v:Value}:List.map (fun x=>SC.sub r v x) (metC l)=metC l:=rfl
theorem zEX {l:List Int}:List.map (fun x=>x.val) (metC l)=metV l:=by rw [metC,List.map_map];exact List.map_id _
def zEY (h:Hp) (b:Nat) (s:Sl (Sl Int)) (l:List (List Int)) (v:Value) (h':Hp):Prop :=
 ∃ s':Sl (Sl Int),s'.l.map (·.l)=s.l.map (·.l) ++ l∧WB 119 35 h' b s'∧(∀ g,s'.a=some ⟨g,0,none⟩→h g=none∨s.a=some ⟨g,0,none⟩)∧(zEF h b s).le (zEF h' b s')
theorem zEZ (c:DChart) (hC:zz9 (Con.con c)=true) (to:Int) (b:Nat) :
  ∀ (f:Nat) (l0:List Int) (a:Int) (r:Sl Int) (s:Sl (Sl Int)) (h:Hp),Enc.ok (zEF h b s) c→r.Ok (zEF h b s)→WB 119 35 h b s→(l0 ++ [a]).Nodup→(∀ x ∈ l0 ++ [a],0≤x∧x < c.points.l.length)→(l0 ++ [a]).length+f=9→r.l.length≤(l0 ++ [a]).length→s.l.length+10 ^ f≤2000000000 →
   Cw jV 240 [c.v,.int .i64 a,.int .i64 to,r.val,.agg (metV l0).toArray,.pointer (some ⟨b,0,none⟩)] h (fun k=>k=b∨s.a=some ⟨k,0,none⟩) (zEY h b s (zEK c.segments.l to f (l0 ++ [a]) r.l))
 | 0,l0,a,r,s,h,hc,hr,hW,hnd,hin,hlen,hrl,hol=>by
  have:=zEO hC hnd (fun x hx=>by rw [zC6];exact hin x hx)
  omega
 | f+1,l0,a,r,s,h,hc,hr,hW,hnd,hin,hlen,hrl,hol=>by
  have hcd:=hc
  have hrd:=hr
  replace hc:Enc.ok h c:=Enc.mono zEG hc
  replace hr:r.Ok h:=hr.mono zEG
  have hg10:c.segments.l.length≤10:=by rw [← zAX];exact zEN hC
  have h8:=zEO hC hnd (fun x hx=>by rw [zC6];exact hin x hx)
  have hp8:c.points.l.length≤8:=by rw [← zC6];exact (zC4 hC).1
  have ha:=hin a (List.mem_append_right _ (List.mem_singleton.2 rfl))
  have wl:=hW.lds
  have hlast:(l0 ++ [a]).getLast?.getD 0=a:=by rw [List.getLast?_concat];rfl
  refine zlI (fun A W=>by simp) Tryz.func240 rfl rfl (by simp)  (fun k hk=>by
   rcases hk with rfl|hk
   ·rw [hW.1];exact fun e=>by cases e
   ·exact hW.2.1.mem hk) fun W0 hWo=>?_
  have own1:∀ g,(g=b∨s.a=some ⟨g,0,none⟩)→h g=none∨W0.own g:=fun g hg=>.inr (hWo g hg)
  repeat' first|refine Wa ?_|(simp only [go_sem,jq,jj,jy,jv,jk,jx,zEU,zEV,true_and];try rfl)|refine Wb ?_|fail
  refine zc9 rfl (fun hx=>?_) (fun hx=>?_)
  ·have hx:a=to:=eq_of_beq hx
   have hF:zEK c.segments.l to (f+1) (l0 ++ [a]) r.l=[r.l]:=by rw [zEK,if_pos (by rw [hlast];exact hx)]
   rw [hF]
   have hp10:0 < 10 ^ (f+1):=Nat.pow_pos (by decide)
   refine Wk ?_
   refine zyW rfl ?_
   refine U_t [0,1,4,2,3] rfl ?_
   try simp only [go_sem,jq,jj,jy,jv,jk,jx,wl,true_or,true_and,and_true,implies_true]
   refine U_1 5 0 [3,2] rfl rfl ?_
   try simp only [go_sem,jq,jj,jy,jv,jk,jx,wl,true_or,true_and,and_true,implies_true]
   refine zkr (zES r _ hr (by omega)) rfl ?_
   rintro v h1 le1 ⟨q,rfl,eq1,Rq,fq⟩
   obtain ⟨W1,lb1⟩:=hW.grow le1
   have wl1:=W1.lds
   have q1:q.Ok (zEF h1 b s):=(hW.beside le1 Rq fq).ok (by decide) fun x hx=>hr.2.2.2.1 x (by rw [← eq1];exact hx)
   try simp only [go_sem,jq,jj,jy,jv,jk,jx,wl1,true_or,true_and,and_true,implies_true]
   refine U_1 6 0 [3,2] rfl rfl ?_
   try simp only [go_sem,jq,jj,jy,jv,jk,jx,wl1,true_or,true_and,and_true,implies_true]
   refine U_1 7 3 [] rfl rfl ?_
   try simp only [go_sem,jq,jj,jy,jv,jk,jx,wl1,true_or,true_and,and_true,implies_true]
   refine zCQ (s:=s) rfl W1.2.1 (fun g hg=>own1 g (.inr hg)) ?_
   try simp only [go_sem,jq,jj,jy,jv,jk,jx]
   refine ⟨rfl,by simp only [maxLen];omega,by omega,fun ad cap h2 P=>?_⟩
   have P':Pub (zCO h1 s) 35 (Enc.size (Sl Int)) (s.l ++ [q]).length ((s.l ++ [q]).flatMap Enc.enc) ad cap h2:=by
    rw [List.length_append,List.flatMap_append];exact P
   obtain ⟨b2,W2,lb2,fr2⟩:=W1.push q1 P'
   try simp only [go_sem,jq,jj,jy,jv,jk,jx,true_or,true_and]
   refine U_t [8] rfl ?_
   try simp only [go_sem,jq,jj,jy,jv,jk,jx,wl1,true_or,true_and,and_true,implies_true]
   refine U_1 9 1 [] rfl rfl ?_
   try simp only [go_sem,jq,jj,jy,jv,jk,jx,wl1,true_or,true_and,and_true,implies_true]
   refine zl3 (by simp only [go_sem]) (by simp only [go_sem]) rfl rfl b2 (own1 b (.inl rfl)) (by simp) ?_
   try simp only [go_sem,jq,jj,jy,jv,jk,jx]
   refine U_d ?_
   refine Wk ?_
   rw [show (Sl.mk ad cap (s.l ++ [q])).val=.slice ad (s.l.length+1) cap from by simp only [Sl.val,List.length_append,List.length_singleton]] at W2 lb2
   rw [zEI]
   refine ⟨_,?_,W2,fun g hg=>?_,Hp.le_trans lb1 lb2⟩
   ·rw [List.map_append];simp only [List.map_cons,List.map_nil,eq1]
   ·rcases fr2 g hg with e|e
    ·exact .inl (znC le1 e)
    ·exact .inr e
  have hx:¬ a=to:=ne_of_beq_false hx
  have hF:zEK c.segments.l to (f+1) (l0 ++ [a]) r.l=(List.range c.segments.l.length).flatMap (wkAt (zEK c.segments.l to f) c.segments.l (l0 ++ [a]) r.l):=by rw [zEK,if_neg (by rw [hlast];exact hx)]
  rw [hF]
  have ha0:=ha.1
  have ha8:a < ((8:Nat):Int):=by omega
  have ha7:a.toNat≤7:=by omega
  have ha9:a.toNat < 8:=by omega
  have hst:=zDC (l:=l0) (x:=a) ⟨ha0,by omega⟩
  refine zc5 ?_
  refine Evs ?_
  repeat' first|refine Wa ?_|(simp only [go_sem,jq,jj,jy,jv,jk,jx,ha0,ha8,ha7,ha9,hst,zDB,zEV,Nat.zero_add,Nat.mul_one,implies_true,true_and];try rfl)|refine Wb ?_|fail
  refine zEE (ι:=Nat × Hp × Sl (Sl Int)) (fun i=>⟨[(1,true,.c (.v (.int .i64 a))),(2,true,.c (.v (.int .i64 to))),(3,true,.c (.v r.val)),(5,true,.c (.v (.pointer (some ⟨b,0,none⟩)))),(6,true,.c (.p 0 0)),(10,true,.c (.p 1 0)),(30,true,.c (.v c.segments.val)),(31,true,.c (.v (.int .i64 c.segments.l.length))),(32,true,.c (.v (.int .i64 i.1)))],[(0,.box 53 [.v c.points.val,.v c.segments.val]),(1,.box 292 (metC (l0 ++ [a])))],i.2.1,2⟩)
   (fun i=>i.1≤c.segments.l.length∧WB 119 35 i.2.1 b i.2.2∧(∀ g,i.2.2.a=some ⟨g,0,none⟩→h g=none∨s.a=some ⟨g,0,none⟩)∧(zEF h b s).le (zEF i.2.1 b i.2.2)∧i.2.2.l.map (·.l)=s.l.map (·.l) ++ (List.range i.1).flatMap (wkAt (zEK c.segments.l to f) c.segments.l (l0 ++ [a]) r.l)) (fun i=>c.segments.l.length - i.1) (0,h,s) ⟨Nat.zero_le _,hW,fun g hg=>.inr hg,Hp.le_refl _,by simp⟩ [0,1] ?_ ?_
  ·refine Evs ?_
   exact Gk
  rintro ⟨i,hk,o⟩ ⟨hi,hWk,hfr,hle,hl⟩
  simp only at hi hWk hfr hle hl
  have hsub:(zEF h b s).le hk:=Hp.le_trans hle zEG
  have hck:Enc.ok hk c:=Enc.mono hsub hcd
  have hrk:=hrd.mono hsub
  have wk:=hWk.lds
  have own2:∀ g,hk g=none→h g=none∨W0.own g:=fun g hg=>by
   by_cases e1:g=b
   ·exact .inr (hWo g (.inl e1))
   by_cases e2:s.a=some ⟨g,0,none⟩
   ·exact .inr (hWo g (.inr e2))
   left
   cases hh:h g with
   | none=>rfl
   | some ob =>
    have h5:zEF h b s g=some ob:=by rw [zEH hW.2.1 e1 e2];exact hh
    rw [hsub g ob h5] at hg;cases hg
  refine Wk ?_
  refine zc9 rfl (fun hd=>?_) (fun hd=>?_)
  ·have hlt:=zjH hd
   have hlti:(i:Int) < c.segments.l.length:=by omega
   obtain ⟨y,hye⟩:∃ y,zCZ c.segments.l[i] a=y:=⟨_,rfl⟩
   have hwe:zEJ c.segments.l (l0 ++ [a]) i=y:=by rw [zEJ,gget hlt,hlast,hye]
   have hyn:y < c.points.l.length:=by
    have:=(zC5 hC (i:=i) (by rw [zAX];exact hlt) a).1
    rw [zAX,zC6,gget hlt,hye] at this
    exact this
   have hat:wkAt (zEK c.segments.l to f) c.segments.l (l0 ++ [a]) r.l i=if 0≤y∧y ∉ l0 ++ [a] then zEK c.segments.l to f (l0 ++ [a] ++ [y]) (r.l ++ [(i:Int)]) else []:=by rw [wkAt,hwe]
   repeat' first|refine Wa ?_|refine zhF (fun _=>zC7 c.segments.l[i] a _) ?_|(simp only [go_sem,jq,jj,jy,jv,jk,jx,zlh hck.2 hlt,hck.2.some hlt,zmT hck.2 hlt,hlt,hlti,jW,jY,implies_true,true_and,and_true,and_self];try rfl)|refine Wb ?_|fail
   rw [hye]
   by_cases hy:0≤y
   case neg =>
    rw [if_neg (fun H=>hy H.1)] at hat
    repeat' first|refine Wa ?_|(simp only [go_sem,jq,jj,jy,jv,jk,jx,eq_false hy,reduceCtorEq,decide_true,decide_false,Bool.not_true,Bool.not_false,Bool.true_or,Bool.false_or,Bool.false_and,Bool.true_and,Bool.false_eq_true,false_implies,implies_true,true_and];try rfl)|refine Wb ?_|fail
    refine zc9 rfl (fun hz=>?_) (fun hz=>?_)
    ·cases hz
    refine Wk ?_
    refine ⟨(i+1,hk,o),[0,1],⟨hlt,hWk,hfr,hle,by rw [hl,zDp,hat,List.append_nil]⟩,by simp only;omega,?_⟩
    refine Evs ?_
    exact Gi (zjA hlt (by omega))
   have hy8:y < ((8:Nat):Int):=by omega
   have hy7:y.toNat≤7:=by omega
   have hy9:y.toNat < 8:=by omega
   have hgt:=zDD (l:=l0 ++ [a]) (x:=y) ⟨hy,by omega⟩
   repeat' first|refine Wa ?_|(simp only [go_sem,jq,jj,jy,jv,jk,jx,eq_true hy,reduceCtorEq,hy8,hy7,hy9,hgt,zDB,Nat.zero_add,Nat.mul_one,decide_true,decide_false,Bool.not_true,Bool.not_false,Bool.true_or,Bool.false_or,Bool.true_and,Bool.false_eq_true,false_implies,implies_true,true_and];try rfl)|refine Wb ?_|fail
   refine zc9 rfl (fun hz=>?_) (fun hz=>?_)
   case refine_2 =>
    have hz:y ∈ l0 ++ [a]:=of_decide_eq_true (by rw [Bool.not_eq_false'] at hz;exact hz)
    rw [if_neg (fun H=>H.2 hz)] at hat
    refine Wk ?_
    refine ⟨(i+1,hk,o),[0,1],⟨hlt,hWk,hfr,hle,by rw [hl,zDp,hat,List.append_nil]⟩,by simp only;omega,?_⟩
    refine Evs ?_
    exact Gi (zjA hlt (by omega))
   have hz:y ∉ l0 ++ [a]:=of_decide_eq_false (by rw [Bool.not_eq_true'] at hz;exact hz)
   rw [if_pos ⟨hy,hz⟩] at hat
   refine Wk ?_
   refine zyW rfl ?_
   refine U_t [0,1,2,3,5,8,9] rfl ?_
   simp only [go_sem,jq,jj,jy,jv,jk,jx,zEW,zET,zDB,Nat.le_refl,implies_true,true_and]
   refine U_m 4 [6] ⟨?_,?_,trivial⟩
   ·refine U_b 4 0 [8,0] rfl rfl ?_
    refine Evs ?_
    refine zkr (zES r _ hrk (by omega)) rfl ?_
    rintro v h1 le1 ⟨q,rfl,eq1,Rq,fq⟩
    simp only [go_sem,jq,jj,jy,jv,jk,jx,zEW,zET,zDB,Nat.le_refl,implies_true,true_and]
    refine U_1 6 0 [8,0] rfl rfl ?_
    simp only [go_sem,jq,jj,jy,jv,jk,jx,zEW,zET,zDB,Nat.le_refl,implies_true,true_and]
    refine U_1 7 3 [8,0] rfl rfl ?_
    try simp only [go_sem,jq,jj,jy,jv,jk,jx]
    refine zCQ (s:=q) rfl Rq (fun g hg=>own2 g (fq g hg)) ?_
    try simp only [go_sem,jq,jj,jy,jv,jk,jx]
    refine ⟨rfl,by rw [eq1];simp only [maxLen];omega,by rw [eq1];omega,fun ad cap h2 P=>?_⟩
    have P':Pub (zCO h1 q) 3 (Enc.size Int) (q.l ++ [(i:Int)]).length ((q.l ++ [(i:Int)]).flatMap Enc.enc) ad cap h2:=by
     rw [List.length_append,List.flatMap_append];exact P
    obtain ⟨le2,fr2⟩:=pubF (l:=q.l ++ [(i:Int)]) Rq le1 fq P'
    obtain ⟨R2,-,-⟩:=P'.row
    obtain ⟨W2,lb2⟩:=hWk.grow le2
    have k2:(Sl.mk ad cap (q.l ++ [(i:Int)])).Ok (zEF h2 b o):=(hWk.beside le2 R2 fr2).ok (by decide) fun x hx=>by
     rcases List.mem_append.1 hx with hx|hx
     ·exact hrk.2.2.2.1 x (by rw [← eq1];exact hx)
     ·rw [List.mem_singleton.1 hx];show I64 _;unfold I64;omega
    rw [show Value.slice ad (q.l.length+1) cap=(Sl.mk ad cap (q.l ++ [(i:Int)])).val from by simp only [Sl.val,List.length_append,List.length_singleton]]
    try simp only [go_sem,jq,jj,jy,jv,jk,jx,zEW,zET,zDB,Nat.le_refl,implies_true,true_and]
    refine U_1 10 1 [] rfl rfl ?_
    try simp only [go_sem,jq,jj,jy,jv,jk,jx,zEX]
    have hol2:o.l.length+10 ^ f≤2000000000:=by
     have e1:=congrArg List.length hl
     rw [List.length_map,List.length_append,List.length_map] at e1
     have e2:=zEM (to:=to) hg10 (f:=f) (k:=i) (pts:=l0 ++ [a]) (r:=r.l) (by omega)
     have e3:(i+1) * 10 ^ f≤10 * 10 ^ f:=Nat.mul_le_mul_right _ (by omega)
     rw [Nat.add_mul,Nat.one_mul] at e3
     rw [Nat.pow_succ] at hol
     omega
    refine ⟨rfl,?_⟩
    refine zlJ (zEZ c hC to b f (l0 ++ [a]) y (Sl.mk ad cap (q.l ++ [(i:Int)])) o h2 (Enc.mono (Hp.le_trans hle lb2) hcd) k2 W2 (by rw [List.nodup_append];exact ⟨hnd,by simp,fun u hu v hv e=>by rw [List.mem_singleton.1 hv] at e;rw [e] at hu;exact hz hu⟩) (fun x hx=>by
     rcases List.mem_append.1 hx with hx|hx
     ·exact hin x hx
     ·rw [List.mem_singleton.1 hx];exact ⟨hy,hyn⟩) (by rw [List.length_append,List.length_singleton];omega) (by rw [List.length_append,List.length_append,List.length_singleton,List.length_singleton,eq1];omega) hol2) rfl (fun k hk=>?_) ?_
    ·rcases hk with rfl|hk
     ·exact ⟨(by rw [W2.1];exact fun e=>(by cases e)),.inr (hWo _ (.inl rfl))⟩
     ·exact ⟨W2.2.1.mem hk,(hfr k hk).imp id (fun e=>hWo k (.inr e))⟩
    rintro v h4 kp ⟨s4,hs4,W4,f4,l4⟩
    try simp only [go_sem,jq,jj,jy,jv,jk,jx]
    refine U_d ?_
    refine Wk ?_
    refine ⟨(i+1,h4,s4),[0,1],⟨hlt,W4,fun g hg=>?_,Hp.le_trans hle (Hp.le_trans lb2 l4),?_⟩,by simp only;omega,?_⟩
    ·rcases f4 g hg with e|e
     ·have e0:hk g=none:=by
       cases hh:hk g with
       | none=>rfl
       | some ob=>rw [le2 g ob hh] at e;cases e
      by_cases e1:g=b
      ·rw [e1,hWk.1] at e0;cases e0
      by_cases e2:s.a=some ⟨g,0,none⟩
      ·exact .inr e2
      left
      cases hh:h g with
      | none=>rfl
      | some ob =>
       have h5:zEF h b s g=some ob:=by rw [zEH hW.2.1 e1 e2];exact hh
       rw [hsub g ob h5] at e0;cases e0
     ·exact hfr g e
    ·rw [hs4,hl,zDp,hat,eq1,List.append_assoc]
    try simp only [go_sem,jq,jj,jy,jv,jk,jx]
    exact Gi (zjA hlt (by omega))
   ·refine U_b 6 0 [8,0] rfl rfl ?_
    simp only [go_sem,jq,jj,jy,jv,jk,jx,zEW,zET,zDB,Nat.le_refl,implies_true,true_and]
    refine U_1 4 0 [8,0] rfl rfl ?_
    refine Evs ?_
    refine zkr (zES r _ hrk (by omega)) rfl ?_
    rintro v h1 le1 ⟨q,rfl,eq1,Rq,fq⟩
    simp only [go_sem,jq,jj,jy,jv,jk,jx,zEW,zET,zDB,Nat.le_refl,implies_true,true_and]
    refine U_1 7 3 [8,0] rfl rfl ?_
    try simp only [go_sem,jq,jj,jy,jv,jk,jx]
    refine zCQ (s:=q) rfl Rq (fun g hg=>own2 g (fq g hg)) ?_
    try simp only [go_sem,jq,jj,jy,jv,jk,jx]
    refine ⟨rfl,by rw [eq1];simp only [maxLen];omega,by rw [eq1];omega,fun ad cap h2 P=>?_⟩
    have P':Pub (zCO h1 q) 3 (Enc.size Int) (q.l ++ [(i:Int)]).length ((q.l ++ [(i:Int)]).flatMap Enc.enc) ad cap h2:=by
     rw [List.length_append,List.flatMap_append];exact P
    obtain ⟨le2,fr2⟩:=pubF (l:=q.l ++ [(i:Int)]) Rq le1 fq P'
    obtain ⟨R2,-,-⟩:=P'.row
    obtain ⟨W2,lb2⟩:=hWk.grow le2
    have k2:(Sl.mk ad cap (q.l ++ [(i:Int)])).Ok (zEF h2 b o):=(hWk.beside le2 R2 fr2).ok (by decide) fun x hx=>by
     rcases List.mem_append.1 hx with hx|hx
     ·exact hrk.2.2.2.1 x (by rw [← eq1];exact hx)
     ·rw [List.mem_singleton.1 hx];show I64 _;unfold I64;omega
    rw [show Value.slice ad (q.l.length+1) cap=(Sl.mk ad cap (q.l ++ [(i:Int)])).val from by simp only [Sl.val,List.length_append,List.length_singleton]]
    try simp only [go_sem,jq,jj,jy,jv,jk,jx,zEW,zET,zDB,Nat.le_refl,implies_true,true_and]
    refine U_1 10 1 [] rfl rfl ?_
    try simp only [go_sem,jq,jj,jy,jv,jk,jx,zEX]
    have hol2:o.l.length+10 ^ f≤2000000000:=by
     have e1:=congrArg List.length hl
     rw [List.length_map,List.length_append,List.length_map] at e1
     have e2:=zEM (to:=to) hg10 (f:=f) (k:=i) (pts:=l0 ++ [a]) (r:=r.l) (by omega)
     have e3:(i+1) * 10 ^ f≤10 * 10 ^ f:=Nat.mul_le_mul_right _ (by omega)
     rw [Nat.add_mul,Nat.one_mul] at e3
     rw [Nat.pow_succ] at hol
     omega
    refine ⟨rfl,?_⟩
    refine zlJ (zEZ c hC to b f (l0 ++ [a]) y (Sl.mk ad cap (q.l ++ [(i:Int)])) o h2 (Enc.mono (Hp.le_trans hle lb2) hcd) k2 W2 (by rw [List.nodup_append];exact ⟨hnd,by simp,fun u hu v hv e=>by rw [List.mem_singleton.1 hv] at e;rw [e] at hu;exact hz hu⟩) (fun x hx=>by
     rcases List.mem_append.1 hx with hx|hx
     ·exact hin x hx
     ·rw [List.mem_singleton.1 hx];exact ⟨hy,hyn⟩) (by rw [List.length_append,List.length_singleton];omega) (by rw [List.length_append,List.length_append,List.length_singleton,List.length_singleton,eq1];omega) hol2) rfl (fun k hk=>?_) ?_
    ·rcases hk with rfl|hk
     ·exact ⟨(by rw [W2.1];exact fun e=>(by cases e)),.inr (hWo _ (.inl rfl))⟩
     ·exact ⟨W2.2.1.mem hk,(hfr k hk).imp id (fun e=>hWo k (.inr e))⟩
    rintro v h4 kp ⟨s4,hs4,W4,f4,l4⟩
    try simp only [go_sem,jq,jj,jy,jv,jk,jx]
    refine U_d ?_
    refine Wk ?_
    refine ⟨(i+1,h4,s4),[0,1],⟨hlt,W4,fun g hg=>?_,Hp.le_trans hle (Hp.le_trans lb2 l4),?_⟩,by simp only;omega,?_⟩
    ·rcases f4 g hg with e|e
     ·have e0:hk g=none:=by
       cases hh:hk g with
       | none=>rfl
       | some ob=>rw [le2 g ob hh] at e;cases e
      by_cases e1:g=b
      ·rw [e1,hWk.1] at e0;cases e0
      by_cases e2:s.a=some ⟨g,0,none⟩
      ·exact .inr e2
      left
      cases hh:h g with
      | none=>rfl
      | some ob =>
       have h5:zEF h b s g=some ob:=by rw [zEH hW.2.1 e1 e2];exact hh
       rw [hsub g ob h5] at e0;cases e0
     ·exact hfr g e
    ·rw [hs4,hl,zDp,hat,eq1,List.append_assoc]
    try simp only [go_sem,jq,jj,jy,jv,jk,jx]
    exact Gi (zjA hlt (by omega))
  ·have hge:=zjI hd
   obtain rfl:i=c.segments.l.length:=by omega
   refine Wk ?_
   exact ⟨o,hl,hWk,hfr,hle⟩
def rtIn (c:PChart) (a b:Int):Bool:=zz9 c && decide (0≤a∧a < c.points.length) && decide (0≤b∧b < c.points.length)
def zE0 (c:PChart) (a b:Int):List (List Int):=if rtIn c a b=true then zEK c.segments b 8 [a] [] else []
theorem zE1 {c:PChart} {a b:Int} (h:rtIn c a b=false):zE0 c a b=[]:=by rw [zE0,if_neg (by rw [h];exact Bool.false_ne_true)]
theorem zE2 {g:List DSegment} {to:Int}:∀ {f:Nat} {pts r:List Int},∀ x ∈ zEK g to f pts r,x.length≤r.length+f
 | 0,_,_,x,hx=>by cases hx
 | f+1,pts,r,x,hx=>by
  unfold zEK at hx
  split at hx
  ·rw [List.mem_singleton.1 hx];omega
  ·obtain ⟨i,_,hx⟩:=List.mem_flatMap.1 hx
   unfold wkAt at hx
   split at hx
   ·have:=zE2 x hx
    rw [List.length_append,List.length_singleton] at this
    omega
   ·cases hx
theorem zE3 {c:PChart} {a b:Int}:∀ x ∈ zE0 c a b,x.length≤8:=fun x hx=>by
 rw [zE0] at hx
 split at hx
 ·have:=zE2 x hx;simpa using this
 ·cases hx
def zE4 (m:List Int→Int) (acc:Option (List Int)) (r:List Int):Option (List Int):=match acc with
 | none=>some r
 | some x=>if m r < m x then some r else some x
def zE5 (c:PChart) (a b:Int):Option (List Int):=(zE0 c a b).foldl (zE4 (zDU c)) none
theorem zE6 {m:List Int→Int} {l0:List (List Int)}:∀ {l:List (List Int)} {acc:Option (List Int)} {x:List Int},(∀ y,acc=some y→y ∈ l0)→(∀ y ∈ l,y ∈ l0)→l.foldl (zE4 m) acc=some x→x ∈ l0
 | [],acc,x,h1,h2,h=>h1 x h
 | r :: l,acc,x,h1,h2,h=>by
  refine zE6 (l:=l) (acc:=zE4 m acc r) (fun y hy=>?_) (fun y hy=>h2 y (List.mem_cons_of_mem _ hy)) h
  unfold zE4 at hy
  split at hy
  ·cases hy;exact h2 _ (List.mem_cons_self ..)
  ·rename_i z
   split at hy
   ·cases hy;exact h2 _ (List.mem_cons_self ..)
   ·cases hy;exact h1 _ rfl
theorem zE7 {c:PChart} {a b:Int} {x:List Int} (h:zE5 c a b=some x):x.length≤8:=zE3 x (zE6 (acc:=none) (fun y hy=>by cases hy) (fun y hy=>hy) h)
theorem zE8 {a:Int}:([a]:List Int).Nodup:=by simp
theorem zE9 (c:DChart) (a b:Int) (h:Hp) (hc:Enc.ok h c) (ha:I64 a):Ct jV 225 [c.v,.int .i64 a,.int .i64 b] h fun v h'=>∃ s:Sl (Sl Int),v=s.val∧s.l.map (·.l)=zE0 (Con.con c) a b∧s.Ok h':=by
 have hgm:=hc.1.max
 have hpl:(Con.con c).points=c.points.l:=zC6 c
 refine zdn (fun A W=>by simp) Tryz.func225 rfl rfl (by simp) fun W0=>?_
 repeat' first|refine Wa ?_|refine zhF (fun _=>zAh c _ hc) ?_|refine zhF (fun _=>zzk _ _ _ _) ?_|(simp only [go_sem,jq,jj,jy,jv,jk,jx];try rfl)|refine Wb ?_|fail
 rw [zjz (by omega)]
 refine zc9 rfl (fun hx=>?_) (fun hx=>?_)
 ·rw [zE1 (by
   rw [rtIn,hpl]
   simp only [jQ,Bool.not_eq_true',Bool.and_eq_false_iff,decide_eq_false_iff_not] at hx ⊢
   rcases hx with (hx|hx)|hx
   ·exact .inl (.inl hx)
   ·exact .inl (.inr (by omega))
   ·exact .inr (by omega))]
  refine Wk ?_
  exact ⟨⟨none,0,[]⟩,rfl,rfl,znp⟩
 simp only [jp,Bool.not_eq_false',jJ,decide_eq_true_eq] at hx
 obtain ⟨⟨hC,ha0,ha1⟩,hb0,hb1⟩:=hx
 have hin:rtIn (Con.con c) a b=true:=by
  simp only [rtIn,hC,hpl,Bool.true_and,jJ,decide_eq_true_eq];omega
 rw [zE0,if_pos hin,zAX]
 refine zc5 ?_
 refine Evs ?_
 first|refine zyi [0,0,2,0,2,1,0] rfl ?_|refine zyh [0,0,2,0,2,1,0] rfl ?_|(refine zc3 ?_;first|refine zyi [0,0,2,0,2,1,0] rfl ?_|refine zyh [0,0,2,0,2,1,0] rfl ?_)
 try simp only [go_sem,jq,jj,jy,jv,jk,jx]
 intro ad1 cap1 h1 P1
 have P1':Pub h 3 (Enc.size Int) ([a]:List Int).length (([a]:List Int).flatMap Enc.enc) ad1 cap1 h1:=P1
 try simp only [go_sem,jq,jj,jy,jv,jk,jx]
 intro ad2 cap2 h2 P2
 have P2':Pub h1 35 (Enc.size (Sl Int)) ([]:List (Sl Int)).length (([]:List (Sl Int)).flatMap Enc.enc) ad2 cap2 h2:=P2
 obtain ⟨R2,f2,k2⟩:=P2'.row
 have W2:WS 35 h2 (Sl.mk ad2 cap2 ([]:List (Sl Int))):=⟨R2,fun x hx=>by cases hx⟩
 have hd2:=P2'.drop (l:=([]:List (Sl Int)))
 have q1:(Sl.mk ad1 cap1 [a]).Ok h1:=Pub.sl (by decide) P1' (fun x hx=>by rw [List.mem_singleton.1 hx];exact ha)
 try simp only [go_sem,jq,jj,jy,jv,jk,jx]
 refine zlJ (zER c hC b 8 (Sl.mk ad1 cap1 [a]) (Sl.mk none 0 []) (Sl.mk ad2 cap2 []) h2 (by rw [hd2];exact Enc.mono P1'.le hc) (by rw [hd2];exact q1) (by rw [hd2];exact znp) W2 (by simp) zE8 (fun x hx=>by rw [List.mem_singleton.1 hx];omega) rfl (Nat.zero_le _) (by show 0+10 ^ 8≤2000000000;decide)) rfl (fun k hk=>⟨R2.mem hk,.inl (znC P1'.le (f2 k hk))⟩) ?_
 rintro v h4 kp ⟨s,rfl,hs,Ws,fs,les⟩
 refine Evs ?_
 refine Wk ?_
 exact ⟨s,rfl,by rw [hs];rfl,Ws.ok (by decide)⟩
theorem zFa (c:DChart) (a b:Int) (h:Hp) (hc:Enc.ok h c) (ha:I64 a):Ct jV 200 [c.v,.int .i64 a,.int .i64 b] h fun v h'=>∃ s:Sl (Sl Int),v=s.val∧s.l.map (·.l)=zE0 (Con.con c) a b∧s.Ok h':=by
 have hgm:=hc.1.max
 have hpl:(Con.con c).points=c.points.l:=zC6 c
 refine zdn (fun A W=>by simp) Tryz.func200 rfl rfl (by simp) fun W0=>?_
 repeat' first|refine Wa ?_|refine zhF (fun _=>zAi c _ hc) ?_|refine zhF (fun _=>zzn _ _ _) ?_|(simp only [go_sem,jq,jj,jy,jv,jk,jx];try rfl)|refine Wb ?_|fail
 refine zc9 rfl (fun hx=>?_) (fun hx=>?_)
 ·rw [zE1 (by
   rw [rtIn,hpl]
   simp only [jQ,Bool.not_eq_true',Bool.and_eq_false_iff,decide_eq_false_iff_not] at hx ⊢
   rcases hx with (hx|hx)|hx
   ·exact .inl (.inl hx)
   ·exact .inl (.inr (by omega))
   ·exact .inr (by omega))]
  refine Wk ?_
  exact ⟨⟨none,0,[]⟩,rfl,rfl,znp⟩
 simp only [jp,Bool.not_eq_false',jJ,decide_eq_true_eq] at hx
 obtain ⟨⟨hC,ha0,ha1⟩,hb0,hb1⟩:=hx
 have hin:rtIn (Con.con c) a b=true:=by
  simp only [rtIn,hC,hpl,Bool.true_and,jJ,decide_eq_true_eq];omega
 rw [zE0,if_pos hin,zAX]
 refine zc5 ?_
 refine Evs ?_
 refine zc3 ?_
 refine zc4 rfl ?_
 refine Evs ?_
 refine zCP 1 ([]:List (Sl Int)) rfl rfl rfl rfl fun s0 h1 e0 R0 f0 l1 k1=>?_
 refine Evs ?_
 refine zx5 2 rfl rfl fun g hg hown=>?_
 have l1:h.le h1:=l1
 have hg:h1 g=none:=hg
 have f0:∀ g,s0.a=some ⟨g,0,none⟩→h g=none:=f0
 have hown:W0.own g:=hown
 refine Evs ?_
 have hbd:zCO h1 s0 g=none:=by
  cases hh:zCO h1 s0 g with
  | none=>rfl
  | some o=>have:=zDk g o hh;rw [hg] at this;cases this
 have hle2:h1.le (h1.ins g (.cells #[s0.val] 119 (0,0))):=Hp.ins_le hg
 have hs0g:s0.a ≠ some ⟨g,0,none⟩:=fun e=>R0.mem e hg
 have W0':WB 119 35 (h1.ins g (.cells #[s0.val] 119 (0,0))) g s0 :=
  ⟨Hp.ins_same,R0.keep fun g' hg'=>Hp.ins_ne (fun e=>by subst e;exact hs0g hg'),hs0g,fun x hx=>by rw [e0] at hx;cases hx⟩
 have hb0':h.le (zEF (h1.ins g (.cells #[s0.val] 119 (0,0))) g s0):=fun k o hk=>by
  rw [zEH W0'.2.1 (fun e=>by subst e;rw [l1 _ o hk] at hg;cases hg) (fun e=>by rw [f0 k e] at hk;cases hk)]
  exact hle2 k o (l1 k o hk)
 first|refine zyi [0,0,0,0,1] rfl ?_|refine zyh [0,0,0,0,1] rfl ?_|(refine zc3 ?_;first|refine zyi [0,0,0,0,1] rfl ?_|refine zyh [0,0,0,0,1] rfl ?_)
 refine Evs ?_
 refine zlJ (zEZ c hC b g 8 [] a (Sl.mk none 0 []) s0 _ (Enc.mono hb0' hc) znp W0' zE8 (fun x hx=>by rw [List.mem_singleton.1 hx];omega) rfl (Nat.zero_le _) (by rw [e0];show 0+10 ^ 8≤2000000000;decide)) rfl (fun k hk=>?_) ?_
 ·rcases hk with rfl|hk
  ·exact ⟨(by rw [Hp.ins_same];exact fun e=>(by cases e)),.inr hown⟩
  ·exact ⟨W0'.2.1.mem hk,.inl (f0 k hk)⟩
 rintro v h4 kp ⟨s,hs,Ws,fs,les⟩
 try simp only [go_sem,jq,jj,jy,jv,jk,jx]
 repeat' first|refine Wa ?_|(simp only [go_sem,jq,jj,jy,jv,jk,jx,Ws.lds];try rfl)|refine Wb ?_|fail
 exact ⟨s,rfl,by rw [hs,e0];rfl,Ws.2.1.ok (by decide) fun x hx=>Enc.mono zEG (Ws.2.2.2 x hx)⟩
theorem zFb {m:List Int→Int} {l:List (Sl Int)} {k:Nat} (hk:k < l.length):((l.take (k+1)).map (·.l)).foldl (zE4 m) none=zE4 m (((l.take k).map (·.l)).foldl (zE4 m) none) l[k].l:=by
 rw [List.take_succ_eq_append_getElem hk,List.map_append,List.foldl_append];rfl
set_option maxRecDepth 20000 in
theorem zFc (c:DChart) (a b:Int) (h:Hp) (hc:Enc.ok h c) (ha:I64 a):Ct jV 179 [c.v,.int .i64 a,.int .i64 b] h fun v h'=>∃ s:Sl Int,v=.tuple #[s.val,.bool (zE5 (Con.con c) a b).isSome]∧s.l=(zE5 (Con.con c) a b).getD []∧s.Ok h':=by
 refine zdn (fun A W=>by simp) Tryz.func179 rfl rfl (by simp) fun W0=>?_
 (first|refine zie rfl ?_|(refine zc3 ?_;first|refine zie rfl ?_|refine zc4 rfl ?_));simp only [go_sem,jq,jj,jy,jv,jk,jx]
 (first|refine zie rfl ?_|(refine zc3 ?_;first|refine zie rfl ?_|refine zc4 rfl ?_));simp only [go_sem,jq,jj,jy,jv,jk,jx]
 (first|refine zie rfl ?_|(refine zc3 ?_;first|refine zie rfl ?_|refine zc4 rfl ?_));simp only [go_sem,jq,jj,jy,jv,jk,jx]
 refine zCP 1 ([]:List Int) rfl rfl rfl rfl fun s0 h1 e0 R0 f0 l1 k1=>?_
 have l1:h.le h1:=l1
 have hc1:Enc.ok h1 c:=Enc.mono l1 hc
 have ok0:s0.Ok h1:=R0.ok (by decide) fun x hx=>by rw [e0] at hx;cases hx
 refine Wk ?_
 refine zkr (zE9 c a b _ hc1 ha) rfl ?_
 rintro v h2 le2 ⟨r,rfl,er,okr⟩
 have hc2:Enc.ok h2 c:=Enc.mono le2 hc1
 have l2:h.le h2:=Hp.le_trans l1 le2
 have hl:=okr.max
 refine Wk ?_
 refine zm1 (ι:=Nat × Sl Int) (fun i=>⟨[(3,true,.c (.p 0 0)),(6,true,.c (.v (.slice none 0 0))),(7,true,.c (.v (.bool false))),(8,true,.c (.v i.2.val)),(9,true,.c (.v (.bool (decide (0 < i.1))))),(16,true,.c (.v r.val)),(17,true,.c (.v (.int .i64 r.l.length))),(18,true,.c (.v (.int .i64 i.1)))],[(0,.box 53 [.v c.points.val,.v c.segments.val])],h2,1⟩) (fun i=>i.1≤r.l.length∧i.2.Ok h2∧((r.l.take i.1).map (·.l)).foldl (zE4 (zDU (Con.con c))) none=if 0 < i.1 then some i.2.l else none) (fun i=>r.l.length - i.1) (0,s0) ⟨Nat.zero_le _,ok0.mono le2,rfl⟩ [0] ?_ ?_
 ·refine Evs ?_
  exact Gk
 rintro ⟨k,q⟩ ⟨hk,okq,hF⟩
 simp only at hk okq hF
 refine Wk ?_
 refine zc9 rfl (fun hd=>?_) (fun hd=>?_)
 ·have hlt:=zjH hd
  have okk:=okr.el hlt
  have hnx:=zFb (m:=zDU (Con.con c)) hlt
  rw [hF] at hnx
  repeat' first|refine Wa ?_|(simp only [go_sem,jq,jj,jy,jv,jk,jx,zkQ okr hlt,okr.some hlt,hlt,jW,jY];try rfl)|refine Wb ?_|fail
  refine zyW rfl ?_
  refine U_t [0,1,2,3,4,6,7] rfl ?_
  simp only [go_sem,jq,jj,jy,jv,jk,jx,zkQ okr hlt,okr.some hlt,hlt,jW,jY]
  refine U_1 5 0 [6] rfl rfl ?_
  simp only [go_sem,jq,jj,jy,jv,jk,jx,zkQ okr hlt,okr.some hlt,hlt,jW,jY]
  refine zhF (fun _=>zDX c r.l[k] _ hc2 okk) ?_
  simp only [go_sem,jq,jj,jy,jv,jk,jx,zkQ okr hlt,okr.some hlt,hlt,jW,jY]
  refine U_1 8 0 [] rfl rfl ?_
  simp only [go_sem,jq,jj,jy,jv,jk,jx,zkQ okr hlt,okr.some hlt,hlt,jW,jY]
  refine zhF (fun _=>zDX c q _ hc2 okq) ?_
  simp only [go_sem,jq,jj,jy,jv,jk,jx,zkQ okr hlt,okr.some hlt,hlt,jW,jY]
  refine U_t [9,10] rfl ?_
  simp only [go_sem,jq,jj,jy,jv,jk,jx,zkQ okr hlt,okr.some hlt,hlt,jW,jY]
  refine U_d ?_
  refine Wk ?_
  refine zc9 rfl (fun hz=>?_) (fun hz=>?_)
  ·refine Wk ?_
   refine ⟨(k+1,r.l[k]),[0],⟨hlt,okk,?_⟩,by simp only;omega,?_⟩
   ·rw [hnx,if_pos (Nat.succ_pos k)]
    by_cases h0:0 < k
    ·rw [if_pos h0]
     rw [decide_eq_true h0] at hz
     have hz:zDU (Con.con c) r.l[k].l < zDU (Con.con c) q.l:=of_decide_eq_true (by rw [Bool.not_true,Bool.false_or] at hz;exact hz)
     show (if _ then _ else _)=_
     rw [if_pos hz]
    ·rw [if_neg h0];rfl
   refine Evs ?_
   try rw [decide_eq_true (Nat.succ_pos k)]
   exact Gi (zjA hlt (by omega))
  ·have h0:0 < k:=by
    rcases Nat.eq_zero_or_pos k with e|e
    ·rw [decide_eq_false (show ¬ 0 < k by omega)] at hz;cases hz
    ·exact e
   refine Wk ?_
   refine ⟨(k+1,q),[0],⟨hlt,okq,?_⟩,by simp only;omega,?_⟩
   ·rw [hnx,if_pos (Nat.succ_pos k),if_pos h0]
    rw [decide_eq_true h0] at hz
    have hz:¬ zDU (Con.con c) r.l[k].l < zDU (Con.con c) q.l:=of_decide_eq_false (by rw [Bool.not_true,Bool.false_or] at hz;exact hz)
    show (if _ then _ else _)=_
    rw [if_neg hz]
   refine Evs ?_
   try rw [decide_eq_true (Nat.succ_pos k)]
   try rw [decide_eq_true h0]
   exact Gi (zjA hlt (by omega))
 ·have hge:=zjI hd
  obtain rfl:k=r.l.length:=by omega
  rw [List.take_length,er] at hF
  have hF:zE5 (Con.con c) a b=_:=hF
  refine Wk ?_
  refine zc9 rfl (fun hz=>?_) (fun hz=>?_)
  ·refine Wk ?_
   rw [hF,if_neg (by simpa using hz)]
   exact ⟨⟨none,0,[]⟩,rfl,rfl,znp⟩
  ·refine Wk ?_
   rw [hF,if_pos (by simpa using hz)]
   exact ⟨q,rfl,rfl,okq⟩
theorem zFd (c:DChart) (a b:Int) (h:Hp) (hc:Enc.ok h c) (ha:I64 a):Ct jV 153 [c.v,.int .i64 a,.int .i64 b] h fun v h'=>∃ s:Sl Int,v=.tuple #[s.val,.bool (zE5 (Con.con c) a b).isSome]∧s.l=(zE5 (Con.con c) a b).getD []∧s.Ok h':=by
 refine zdn (fun A W=>by simp) Tryz.func153 rfl rfl (by simp) fun W0=>?_
 refine Wk ?_
 refine zkr (zFa c a b _ hc ha) rfl ?_
 rintro v h2 le2 ⟨r,rfl,er,okr⟩
 have hc2:Enc.ok h2 c:=Enc.mono le2 hc
 have hl:=okr.max
 refine Wk ?_
 refine zc9 rfl (fun hz=>?_) (fun hz=>?_)
 ·have hz:r.l=[]:=List.length_eq_zero_iff.1 (by have:=eq_of_beq hz;omega)
  have hF:zE5 (Con.con c) a b=none:=by rw [zE5,← er,hz];rfl
  refine Wk ?_
  rw [hF]
  exact ⟨⟨none,0,[]⟩,rfl,rfl,znp⟩
 have h0:0 < r.l.length:=by have:=ne_of_beq_false hz;omega
 have h0i:(0:Int) < r.l.length:=by omega
 have hat0:=zkQ okr h0
 simp only [go_sem,Nat.zero_mul] at hat0
 repeat' first|refine Wa ?_|(simp only [go_sem,jq,jj,jy,jv,jk,jx,hat0,okr.some h0,h0,h0i,Int.toNat_zero,Nat.zero_mul,Int.le_refl,implies_true,true_and,and_true];try rfl)|refine Wb ?_|fail
 refine zm1 (ι:=Nat × Sl Int) (fun i=>⟨[(3,true,.c (.p 0 0)),(6,true,.c (.v (.slice none 0 0))),(7,true,.c (.v (.bool false))),(9,true,.c (.v i.2.val)),(22,true,.c (.v r.val)),(23,true,.c (.v (.int .i64 r.l.length))),(24,true,.c (.v (.int .i64 i.1)))],[(0,.box 53 [.v c.points.val,.v c.segments.val])],h2,1⟩) (fun i=>i.1≤r.l.length∧i.2.Ok h2∧((i.1=0∧i.2=r.l[0])∨((r.l.take i.1).map (·.l)).foldl (zE4 (zDU (Con.con c))) none=some i.2.l)) (fun i=>r.l.length - i.1) (0,r.l[0]) ⟨Nat.zero_le _,okr.el h0,.inl ⟨rfl,rfl⟩⟩ [0] ?_ ?_
 ·refine Evs ?_
  exact Gk
 rintro ⟨k,q⟩ ⟨hk,okq,hF⟩
 simp only at hk okq hF
 refine Wk ?_
 refine zc9 rfl (fun hd=>?_) (fun hd=>?_)
 ·have hlt:=zjH hd
  have okk:=okr.el hlt
  have hnx:=zFb (m:=zDU (Con.con c)) hlt
  have hnx2:((r.l.take (k+1)).map (·.l)).foldl (zE4 (zDU (Con.con c))) none=if zDU (Con.con c) r.l[k].l < zDU (Con.con c) q.l then some r.l[k].l else some q.l:=by
   rw [hnx]
   rcases hF with ⟨rfl,rfl⟩|hF
   ·rw [if_neg (Int.lt_irrefl _)];rfl
   ·rw [hF];rfl
  repeat' first|refine Wa ?_|(simp only [go_sem,jq,jj,jy,jv,jk,jx,zkQ okr hlt,okr.some hlt,hlt,jW,jY];try rfl)|refine Wb ?_|fail
  refine zyW rfl ?_
  refine U_t [0,1,3,4] rfl ?_
  simp only [go_sem,jq,jj,jy,jv,jk,jx,zkQ okr hlt,okr.some hlt,hlt,jW,jY]
  refine U_1 2 0 [3] rfl rfl ?_
  simp only [go_sem,jq,jj,jy,jv,jk,jx,zkQ okr hlt,okr.some hlt,hlt,jW,jY]
  refine zhF (fun _=>zDY c r.l[k] _ hc2 okk) ?_
  simp only [go_sem,jq,jj,jy,jv,jk,jx,zkQ okr hlt,okr.some hlt,hlt,jW,jY]
  refine U_1 5 0 [] rfl rfl ?_
  simp only [go_sem,jq,jj,jy,jv,jk,jx,zkQ okr hlt,okr.some hlt,hlt,jW,jY]
  refine zhF (fun _=>zDY c q _ hc2 okq) ?_
  simp only [go_sem,jq,jj,jy,jv,jk,jx,zkQ okr hlt,okr.some hlt,hlt,jW,jY]
  refine U_t [6] rfl ?_
  simp only [go_sem,jq,jj,jy,jv,jk,jx,zkQ okr hlt,okr.some hlt,hlt,jW,jY]
  refine U_d ?_
  refine Wk ?_
  refine zc9 rfl (fun hz=>?_) (fun hz=>?_)
  ·have hz:=of_decide_eq_true hz
   refine Wk ?_
   refine ⟨(k+1,r.l[k]),[0],⟨hlt,okk,.inr (by rw [hnx2,if_pos hz])⟩,by simp only;omega,?_⟩
   refine Evs ?_
   exact Gi (zjA hlt (by omega))
  ·have hz:=of_decide_eq_false hz
   refine Wk ?_
   refine ⟨(k+1,q),[0],⟨hlt,okq,.inr (by rw [hnx2,if_neg hz])⟩,by simp only;omega,?_⟩
   refine Evs ?_
   exact Gi (zjA hlt (by omega))
 ·have hge:=zjI hd
  obtain rfl:k=r.l.length:=by omega
  have hF:zE5 (Con.con c) a b=some q.l:=by
   rcases hF with ⟨e,_⟩|hF
   ·omega
   ·rw [List.take_length,er] at hF;exact hF
  refine Wk ?_
  rw [hF]
  exact ⟨q,rfl,rfl,okq⟩
end Go.Proofs.YtdejfjdbcggilaaGreat
