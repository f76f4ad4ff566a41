/- What functions of the given program compute, as contracts. -/
import Derived.Test.YtbkaaakphpbmiaaGreatSGBestPlanx17
import Derived.Test.YtbkaaakphpbmiaaGreatXGBestPlan16
set_option linter.unusedVariables false
set_option linter.unusedSimpArgs false
set_option maxRecDepth 4000
open Nat renaming reduceAdd → jq, reduceMul → jj, reduceBEq → jy, reduceLeDiff → jv, reduceLT → jk, reduceEqDiff → jx
open Bool renaming or_eq_false_iff → jp, or_eq_true → jQ, and_eq_true → jJ
open Int renaming toNat_natCast → jW, natCast_nonneg → jY
open Go.Proofs.Tryz renaming prog → jV
namespace Go.Proofs.YtbkaaakphpbmiaaGreat
open Go Go.SL
set_option maxHeartbeats 1000000
def zxU (g:List DSegment) (pts:List Int) (i:Nat):Int:=zwS (g.getD i dG) (pts.getLast?.getD 0)
def wkAt (F:List Int→List Int→List (List Int)) (g:List DSegment) (pts r:List Int) (i:Nat):List (List Int) :=
 if 0≤zxU g pts i∧zxU g pts i ∉ pts then F (pts ++ [zxU g pts i]) (r ++ [(i:Int)]) else []
def zxV (g:List DSegment) (to:Int):Nat→List Int→List Int→List (List Int)
 | 0,_,_=>[]
 | f+1,pts,r=>if pts.getLast?.getD 0=to then [r] else (List.range g.length).flatMap (wkAt (zxV g to f) g pts r)
theorem zxW {g:List DSegment} {to:Int} (hg:g.length≤10):∀ {f:Nat} {pts r:List Int},(zxV g to f pts r).length≤10 ^ f
 | 0,_,_=>Nat.zero_le _
 | f+1,pts,r=>by
  unfold zxV
  have hp:0 < 10 ^ f:=Nat.pow_pos (by decide)
  rw [Nat.pow_succ]
  split
  ·show 1≤_;omega
  ·refine Nat.le_trans (zn1 (B:=10 ^ f) fun i _=>?_) ?_
   ·unfold wkAt
    split
    ·exact zxW hg
    ·exact Nat.zero_le _
   ·rw [List.length_range]
    exact Nat.le_trans (Nat.mul_le_mul_right _ hg) (by omega)
theorem zxX {g:List DSegment} {to:Int} (hg:g.length≤10) {f k:Nat} {pts r:List Int} (hk:k≤10):((List.range k).flatMap (wkAt (zxV g to f) g pts r)).length≤k * 10 ^ f:=by
 have:=zn1 (B:=10 ^ f) (l:=List.range k) (F:=wkAt (zxV g to f) g pts r) fun i _=>by
  unfold wkAt
  split
  ·exact zxW hg
  ·exact Nat.zero_le _
 rwa [List.length_range] at this
theorem zxY {c:PChart} (h:zva c=true):c.segments.length≤10:=by
 simp only [zva,jJ,decide_eq_true_eq] at h
 exact h.1.1.2
theorem zxZ {c:PChart} (h:zva c=true) {pts:List Int} (hn:pts.Nodup) (hx:∀ x ∈ pts,0≤x∧x < c.points.length):pts.length≤8:=Nat.le_trans (zn5 hn hx) (zwX h).1
def zZ0 (h:Hp) (out:Sl (Sl Int)) (l:List (List Int)) (v:Value) (h':Hp):Prop :=
 ∃ s:Sl (Sl Int),v=s.val∧s.l.map (·.l)=out.l.map (·.l) ++ l∧WS 35 h' s∧(∀ g,s.a=some ⟨g,0,none⟩→h g=none∨out.a=some ⟨g,0,none⟩)∧(znC h out).le (znC h' s)
theorem zZ1 {l:List Int} {u:Value} (hu:u ∈ l.flatMap Enc.enc):u.oneCell'=true:=by
 obtain ⟨x,_,hu⟩:=List.mem_flatMap.1 hu
 exact Enc.one x u hu
set_option maxRecDepth 20000 in
theorem zZ2 (c:DChart) (hC:zva (Con.con c)=true) (to:Int) :
  ∀ (f:Nat) (pts r:Sl Int) (out:Sl (Sl Int)) (h:Hp),Enc.ok (znC h out) c→pts.Ok (znC h out)→r.Ok (znC h out)→WS 35 h out→pts.l ≠ []→pts.l.Nodup→(∀ x ∈ pts.l,0≤x∧x < c.points.l.length)→pts.l.length+f=9→r.l.length≤pts.l.length→out.l.length+10 ^ f≤2000000000 →
   Cw jV 270 [c.v,pts.val,r.val,.int .i64 to,out.val] h (fun k=>out.a=some ⟨k,0,none⟩) (zZ0 h out (zxV c.segments.l to f pts.l r.l))
 | 0,pts,r,out,h,hc,hp,hr,hW,hne,hnd,hin,hlen,hrl,hol=>by
  have:=zxZ hC hnd (fun x hx=>by rw [zwZ];exact hin x hx)
  omega
 | f+1,pts,r,out,h,hc,hp,hr,hW,hne,hnd,hin,hlen,hrl,hol=>by
  have hcd:=hc
  have hpd:=hp
  have hrd:=hr
  replace hc:Enc.ok h c:=Enc.mono znY hc
  replace hp:pts.Ok h:=hp.mono znY
  replace hr:r.Ok h:=hr.mono znY
  have hg10:c.segments.l.length≤10:=by rw [← zvJ];exact zxY hC
  have h8:=zxZ hC hnd (fun x hx=>by rw [zwZ];exact hin x hx)
  have hp8:c.points.l.length≤8:=by rw [← zwZ];exact (zwX hC).1
  obtain ⟨n,hn⟩:∃ n,pts.l.length=n+1:=⟨pts.l.length - 1,by have:=List.length_pos_iff.2 hne;omega⟩
  have hn1:n < pts.l.length:=by omega
  have hn1i:(n:Int) < pts.l.length:=by omega
  have hnw:IntKind.i64.wrap ((pts.l.length:Int) - 1)=(n:Int):=by rw [zjz (by omega)];omega
  have hlast:pts.l.getLast?.getD 0=pts.l[n]:=by rw [zw7 hn,iget hn1]
  obtain ⟨p0,hp0⟩:∃ p0,pts.l[n]=p0:=⟨_,rfl⟩
  rw [hp0] at hlast
  refine zlh (fun A W=>by simp) Tryz.func270 rfl rfl (by simp)  (fun k hk=>hW.1.mem hk) fun W0 hWo=>?_
  repeat' first|refine Wa ?_|(simp only [go_sem,jq,jj,jy,jv,jk,jx,hnw,zkv hp hn1,hp.some hn1,hn1,hn1i,hp0,jW,jY,implies_true,true_and,and_true,and_self];try rfl)|refine Wb ?_|fail
  refine zc9 rfl (fun hx=>?_) (fun hx=>?_)
  ·have hx:p0=to:=eq_of_beq hx
   have hF:zxV c.segments.l to (f+1) pts.l r.l=[r.l]:=by rw [zxV,if_pos (by rw [hlast];exact hx)]
   have hallr:h.ldL r.val 1=some (r.l.flatMap Enc.enc):=hr.all (by decide)
   first|refine zmR [0,0,0,2,0,3,0] rfl ?_|refine zmQ [0,0,0,2,0,3,0] rfl ?_|(refine zc3 ?_;first|refine zmR [0,0,0,2,0,3,0] rfl ?_|refine zmQ [0,0,0,2,0,3,0] rfl ?_)
   simp only [go_sem,jq,jj,jy,jv,jk,jx,hallr,Option.isSome_some,Option.getD_some,true_and,Nat.zero_add,List.nil_append]
   refine ⟨fun u hu=>zZ1 hu,by simp only [maxLen];omega,by omega,fun ad cap h1 P1=>?_⟩
   have P1':Pub h 3 (Enc.size Int) r.l.length (r.l.flatMap Enc.enc) ad cap h1:=P1
   have P1d:=P1'.beside hW.1
   obtain ⟨W1,hd1⟩:=hW.grow P1'.le
   have q1:(Sl.mk ad cap r.l).Ok (znC h1 out):=Pub.sl (by decide) P1d (fun x hx=>hrd.2.2.2.1 x hx)
   refine znE (s:=out) rfl W1.1 (fun g hg=>.inr (hWo g hg)) ?_
   refine Evs ?_
   have hp10:0 < 10 ^ (f+1):=Nat.pow_pos (by decide)
   refine ⟨rfl,by simp only [maxLen];omega,by omega,fun ad2 cap2 h2 P2=>?_⟩
   have P2':Pub (znC h1 out) 35 (Enc.size (Sl Int)) (out.l ++ [Sl.mk ad cap r.l]).length ((out.l ++ [Sl.mk ad cap r.l]).flatMap Enc.enc) ad2 cap2 h2:=by
    rw [List.length_append,List.flatMap_append];exact P2
   obtain ⟨W2,hd2,fr2,kp2⟩:=W1.push q1 P2'
   rw [hF]
   refine Wk ?_
   refine ⟨Sl.mk ad2 cap2 (out.l ++ [Sl.mk ad cap r.l]),by simp only [Sl.val,List.length_append,List.length_singleton],by rw [List.map_append];rfl,W2,fun g hg=>?_,by rw [hd2];exact hd1⟩
   rcases fr2 g hg with e|e
   ·exact .inl (zmx P1'.le e)
   ·exact .inr e
  have hx:¬ p0=to:=ne_of_beq_false hx
  have hF:zxV c.segments.l to (f+1) pts.l r.l=(List.range c.segments.l.length).flatMap (wkAt (zxV c.segments.l to f) c.segments.l pts.l r.l):=by rw [zxV,if_neg (by rw [hlast];exact hx)]
  rw [hF]
  refine Wk ?_
  refine zoe (ι:=Nat × Hp × Sl (Sl Int)) (fun i=>⟨[(1,true,.c (.v pts.val)),(2,true,.c (.v r.val)),(3,true,.c (.v (.int .i64 to))),(4,true,.c (.v i.2.2.val)),(5,true,.c (.p 0 0)),(10,true,.c (.v (.slice none 0 0))),(11,true,.c (.v (.int .i64 p0))),(31,true,.c (.v c.segments.val)),(32,true,.c (.v (.int .i64 c.segments.l.length))),(33,true,.c (.v (.int .i64 i.1)))],[(0,.box 57 [.v c.points.val,.v c.segments.val])],i.2.1,1⟩)
   (fun i=>i.1≤c.segments.l.length∧WS 35 i.2.1 i.2.2∧(∀ g,i.2.2.a=some ⟨g,0,none⟩→h g=none∨out.a=some ⟨g,0,none⟩)∧(znC h out).le (znC i.2.1 i.2.2)∧i.2.2.l.map (·.l)=out.l.map (·.l) ++ (List.range i.1).flatMap (wkAt (zxV c.segments.l to f) c.segments.l pts.l r.l)) (fun i=>c.segments.l.length - i.1) (0,h,out) ⟨Nat.zero_le _,hW,fun g hg=>.inr hg,Hp.le_refl _,by simp⟩ [0] ?_ ?_
  ·refine Evs ?_
   exact Gk
  rintro ⟨i,hk,o⟩ ⟨hi,hWk,hfr,hle,hl⟩
  simp only at hi hWk hfr hle hl
  have hsub:(znC h out).le hk:=Hp.le_trans hle znY
  have hck:Enc.ok hk c:=Enc.mono hsub hcd
  have hpk:=hpd.mono hsub
  have hrk:=hrd.mono hsub
  refine Wk ?_
  refine zc9 rfl (fun hd=>?_) (fun hd=>?_)
  ·have hlt:=zjH hd
   have hlti:(i:Int) < c.segments.l.length:=by omega
   obtain ⟨y,hye⟩:∃ y,zwS c.segments.l[i] p0=y:=⟨_,rfl⟩
   have hwe:zxU c.segments.l pts.l i=y:=by rw [zxU,gget hlt,hlast,hye]
   have hyn:y < c.points.l.length:=by
    have:=(zwY hC (i:=i) (by rw [zvJ];exact hlt) p0).1
    rw [zvJ,zwZ,gget hlt,hye] at this
    exact this
   have hat:wkAt (zxV c.segments.l to f) c.segments.l pts.l r.l i=if 0≤y∧y ∉ pts.l then zxV c.segments.l to f (pts.l ++ [y]) (r.l ++ [(i:Int)]) else []:=by rw [wkAt,hwe]
   repeat' first|refine Wa ?_|refine zhF (fun _=>zZM c.segments.l[i] p0 _) ?_|(simp only [go_sem,jq,jj,jy,jv,jk,jx,zkU hck.2 hlt,hck.2.some hlt,zlS hck.2 hlt,hlt,hlti,jW,jY,implies_true,true_and,and_true,and_self];try rfl)|refine Wb ?_|fail
   rw [hye]
   repeat' first|refine Wa ?_|refine zhF (fun _=>zZO pts y _ hpk) ?_|(simp only [go_sem,jq,jj,jy,jv,jk,jx];try rfl)|refine Wb ?_|fail
   refine zod (ι:=Hp × Sl (Sl Int)) (fun j=>⟨[(1,true,.c (.v pts.val)),(2,true,.c (.v r.val)),(3,true,.c (.v (.int .i64 to))),(4,true,.c (.v j.2.val)),(5,true,.c (.p 0 0)),(10,true,.c (.v (.slice none 0 0))),(11,true,.c (.v (.int .i64 p0))),(31,true,.c (.v c.segments.val)),(32,true,.c (.v (.int .i64 c.segments.l.length))),(33,true,.c (.v (.int .i64 i)))],[(0,.box 57 [.v c.points.val,.v c.segments.val])],j.1,1⟩)
    (fun j=>WS 35 j.1 j.2∧(∀ g,j.2.a=some ⟨g,0,none⟩→h g=none∨out.a=some ⟨g,0,none⟩)∧(znC h out).le (znC j.1 j.2)∧j.2.l.map (·.l)=out.l.map (·.l) ++ (List.range (i+1)).flatMap (wkAt (zxV c.segments.l to f) c.segments.l pts.l r.l)) (fun _=>rfl) ?_ ?_
   ·refine zc9 rfl (fun hz=>?_) (fun hz=>?_)
    ·have hz1:0≤y:=of_decide_eq_true (Bool.and_eq_true_iff.1 hz).1
     have hz2:y ∉ pts.l:=of_decide_eq_false (by simpa using (Bool.and_eq_true_iff.1 hz).2)
     rw [if_pos ⟨hz1,hz2⟩] at hat
     have hallp:hk.ldL pts.val 1=some (pts.l.flatMap Enc.enc):=hpk.all (by decide)
     have hallr:hk.ldL r.val 1=some (r.l.flatMap Enc.enc):=hrk.all (by decide)
     have hy64:I64 y:=by unfold I64;omega
     have hi64:I64 (i:Int):=by unfold I64;omega
     refine znv rfl ?_
     refine U_t [0,2,4,8,10,13,14] rfl ?_
     simp only [go_sem,jq,jj,jy,jv,jk,jx,hallp,hallr,Option.isSome_some,Option.getD_some,true_and,Nat.zero_add,List.nil_append]
     refine zZY 2 #[true,true,true,true,true,true,true,true,true,true,true,true,true,true,true,false,false] ⟨[(1,true,.c (.v pts.val)),(2,true,.c (.v r.val)),(3,true,.c (.v (.int .i64 to))),(4,true,.c (.v o.val)),(5,true,.c (.p 0 0)),(10,true,.c (.v (.slice none 0 0))),(11,true,.c (.v (.int .i64 p0))),(31,true,.c (.v c.segments.val)),(32,true,.c (.v (.int .i64 c.segments.l.length))),(33,true,.c (.v (.int .i64 i))),(49,true,.g [.v c.points.val,.v c.segments.val]),(51,true,.c (.v pts.val)),(53,true,.c (.v (.int .i64 y))),(57,true,.c (.v r.val)),(59,true,.c (.v (.int .i64 i))),(62,true,.c (.v (.int .i64 to))),(63,true,.c (.v o.val)),(55,true,.c (.s 1)),(61,true,.c (.s 2))],[(0,.box 57 [.v c.points.val,.v c.segments.val]),(1,.row 3 1 (pts.l.length+1) (pts.l.flatMap Enc.enc ++ [.int .i64 y])),(2,.row 3 1 (r.l.length+1) (r.l.flatMap Enc.enc ++ [.int .i64 i]))],hk,3⟩ ?_ fun N0=>?_
     ·refine zn9 1 (pts.l ++ [y]) rfl rfl (by simp) (by rw [List.flatMap_append];rfl) fun q1 g1 eq1 R1 fq1 le1 kq1=>?_
      refine Evs ?_
      refine zn9 2 (r.l ++ [(i:Int)]) rfl rfl (by simp) (by rw [List.flatMap_append];rfl) fun q2 g2 eq2 R2 fq2 le2 kq2=>?_
      refine Evs ?_
      obtain ⟨Wa,la⟩:=hWk.grow le1
      obtain ⟨Wb,lb⟩:=Wa.grow le2
      have lab:=Hp.le_trans la lb
      have k1:q1.Ok (znC g2 o):=by
       refine Sl.Ok.mono lb (RowAt.ok (by decide) (R1.keep (h':=znC g1 o) fun g hg=>zn0 fun a ha e=>?_) fun x hx=>?_)
       ·have hb:=hWk.1.blk a ha
        rw [hb,← e] at ha
        exact hWk.1.mem ha (fq1 g hg)
       ·rw [eq1] at hx
        rcases List.mem_append.1 hx with hx|hx
        ·exact hpk.2.2.2.1 x hx
        ·rw [List.mem_singleton.1 hx];exact hy64
      have k2:q2.Ok (znC g2 o):=by
       refine RowAt.ok (by decide) (R2.keep (h':=znC g2 o) fun g hg=>zn0 fun a ha e=>?_) fun x hx=>?_
       ·have hb:=Wa.1.blk a ha
        rw [hb,← e] at ha
        exact Wa.1.mem ha (fq2 g hg)
       ·rw [eq2] at hx
        rcases List.mem_append.1 hx with hx|hx
        ·exact hrk.2.2.2.1 x hx
        ·rw [List.mem_singleton.1 hx];exact hi64
      have hol2:o.l.length+10 ^ f≤2000000000:=by
       have e1:=congrArg List.length hl
       rw [List.length_map,List.length_append,List.length_map] at e1
       have e2:=zxX (to:=to) hg10 (f:=f) (k:=i) (pts:=pts.l) (r:=r.l) (by omega)
       have e3:(i+1) * 10 ^ f≤10 * 10 ^ f:=Nat.mul_le_mul_right _ (by omega)
       rw [Nat.add_mul,Nat.one_mul] at e3
       rw [Nat.pow_succ] at hol
       omega
      refine U_1 15 1 [] rfl rfl ?_
      refine Evs ?_
      refine zli (zZ2 c hC to f q1 q2 o g2 (Enc.mono (Hp.le_trans hle lab) hcd) k1 k2 Wb (by rw [eq1];simp) (by rw [eq1,List.nodup_append];exact ⟨hnd,by simp,fun a ha b hb e=>by rw [List.mem_singleton.1 hb] at e;rw [e] at ha;exact hz2 ha⟩) (fun x hx=>by
       rw [eq1] at hx
       rcases List.mem_append.1 hx with hx|hx
       ·exact hin x hx
       ·rw [List.mem_singleton.1 hx];exact ⟨hz1,hyn⟩) (by rw [eq1,List.length_append,List.length_singleton];omega) (by rw [eq1,eq2,List.length_append,List.length_append,List.length_singleton,List.length_singleton];omega) hol2) rfl (fun k hk=>⟨Wb.1.mem hk,(hfr k hk).imp id (hWo k)⟩) ?_
      rintro v h4 kp ⟨s,rfl,hs,Ws,fs,les⟩
      refine Evs ?_
      refine U_t [16] rfl ?_
      refine Evs ?_
      refine U_d ?_
      refine ⟨(h4,s),[0],⟨Ws,fun g hg=>?_,Hp.le_trans hle (Hp.le_trans lab les),?_⟩,?_⟩
      ·rcases fs g hg with e|e
       ·by_cases ho:out.a=some ⟨g,0,none⟩
        ·exact .inr ho
        ·left
         cases hh:h g with
         | none=>rfl
         | some ob =>
          have h5:znC h out g=some ob:=by rw [zn0 (fun a ha e'=>ho (by rw [ha,hW.1.blk a ha,e']))];exact hh
          have h6:=znY g ob (lab g ob (hle g ob h5))
          rw [e] at h6;cases h6
       ·exact hfr g e
      ·rw [hs,hl,eq1,eq2];simp [List.flatMap_append,hat]
      refine Evs ?_
      exact Gk
     refine zZY 3 #[true,true,true,true,true,true,true,true,true,true,true,true,false,true,true,false,false] ⟨[(1,true,.c (.v pts.val)),(2,true,.c (.v r.val)),(3,true,.c (.v (.int .i64 to))),(4,true,.c (.v o.val)),(5,true,.c (.p 0 0)),(10,true,.c (.v (.slice none 0 0))),(11,true,.c (.v (.int .i64 p0))),(31,true,.c (.v c.segments.val)),(32,true,.c (.v (.int .i64 c.segments.l.length))),(33,true,.c (.v (.int .i64 i))),(49,true,.g [.v c.points.val,.v c.segments.val]),(51,true,.c (.v pts.val)),(53,true,.c (.v (.int .i64 y))),(57,true,.c (.v r.val)),(59,true,.c (.v (.int .i64 i))),(62,true,.c (.v (.int .i64 to))),(63,true,.c (.v o.val)),(55,true,.c (.s 1)),(58,true,.c (.s 2)),(60,true,.c (.s 3))],[(0,.box 57 [.v c.points.val,.v c.segments.val]),(1,.row 3 1 (pts.l.length+1) (pts.l.flatMap Enc.enc ++ [.int .i64 y])),(2,.row 3 1 r.l.length (r.l.flatMap Enc.enc)),(3,.row 3 1 1 [.int .i64 i])],hk,4⟩ ?_ fun N1=>?_
     ·refine U_m 12 [] ⟨?_,trivial⟩
      ·refine U_b 12 0 [0] rfl rfl ?_
       simp only [go_sem,jq,jj,jy,jv,jk,jx,hallp,hallr,Option.isSome_some,Option.getD_some,true_and,Nat.zero_add,List.nil_append]
       refine ⟨by simp only [maxLen];omega,by omega,?_⟩
       refine zZZ [0,1,4] N0 rfl rfl ?_
       refine Evs ?_
       exact Gk
     refine zZY 4 #[true,true,true,true,true,true,true,true,true,true,true,false,false,true,true,false,false] ⟨[(1,true,.c (.v pts.val)),(2,true,.c (.v r.val)),(3,true,.c (.v (.int .i64 to))),(4,true,.c (.v o.val)),(5,true,.c (.p 0 0)),(10,true,.c (.v (.slice none 0 0))),(11,true,.c (.v (.int .i64 p0))),(31,true,.c (.v c.segments.val)),(32,true,.c (.v (.int .i64 c.segments.l.length))),(33,true,.c (.v (.int .i64 i))),(49,true,.g [.v c.points.val,.v c.segments.val]),(51,true,.c (.v pts.val)),(53,true,.c (.v (.int .i64 y))),(57,true,.c (.v r.val)),(59,true,.c (.v (.int .i64 i))),(62,true,.c (.v (.int .i64 to))),(63,true,.c (.v o.val)),(55,true,.c (.s 1)),(58,true,.c (.s 2))],[(0,.box 57 [.v c.points.val,.v c.segments.val]),(1,.row 3 1 (pts.l.length+1) (pts.l.flatMap Enc.enc ++ [.int .i64 y])),(2,.row 3 1 r.l.length (r.l.flatMap Enc.enc))],hk,3⟩ ?_ fun N2=>?_
     ·refine U_m 11 [] ⟨?_,trivial⟩
      ·refine U_b 11 0 [0] rfl rfl ?_
       simp only [go_sem,jq,jj,jy,jv,jk,jx,hallp,hallr,Option.isSome_some,Option.getD_some,true_and,Nat.zero_add,List.nil_append]
       refine zZZ [0,1,2,3] N1 rfl rfl ?_
       refine Evs ?_
       exact Gk
     refine zZY 4 #[true,true,true,true,true,true,true,true,true,false,true,true,false,true,true,false,false] ⟨[(1,true,.c (.v pts.val)),(2,true,.c (.v r.val)),(3,true,.c (.v (.int .i64 to))),(4,true,.c (.v o.val)),(5,true,.c (.p 0 0)),(10,true,.c (.v (.slice none 0 0))),(11,true,.c (.v (.int .i64 p0))),(31,true,.c (.v c.segments.val)),(32,true,.c (.v (.int .i64 c.segments.l.length))),(33,true,.c (.v (.int .i64 i))),(49,true,.g [.v c.points.val,.v c.segments.val]),(51,true,.c (.v pts.val)),(53,true,.c (.v (.int .i64 y))),(57,true,.c (.v r.val)),(59,true,.c (.v (.int .i64 i))),(62,true,.c (.v (.int .i64 to))),(63,true,.c (.v o.val)),(55,true,.c (.s 1)),(56,true,.c (.s 2)),(60,true,.c (.s 3))],[(0,.box 57 [.v c.points.val,.v c.segments.val]),(1,.row 3 1 (pts.l.length+1) (pts.l.flatMap Enc.enc ++ [.int .i64 y])),(2,.row 3 1 0 []),(3,.row 3 1 1 [.int .i64 i])],hk,4⟩ ?_ fun N3=>?_
     ·refine U_m 9 [] ⟨?_,trivial⟩
      ·refine U_b 9 0 [0] rfl rfl ?_
       simp only [go_sem,jq,jj,jy,jv,jk,jx,hallp,hallr,Option.isSome_some,Option.getD_some,true_and,Nat.zero_add,List.nil_append]
       refine ⟨fun u hu=>zZ1 hu,by simp only [maxLen];omega,by omega,?_⟩
       refine zZZ [0,1,4,3] N1 rfl rfl ?_
       refine Evs ?_
       exact Gk
     refine zZY 5 #[true,true,true,true,true,true,true,true,true,false,true,false,false,true,true,false,false] ⟨[(1,true,.c (.v pts.val)),(2,true,.c (.v r.val)),(3,true,.c (.v (.int .i64 to))),(4,true,.c (.v o.val)),(5,true,.c (.p 0 0)),(10,true,.c (.v (.slice none 0 0))),(11,true,.c (.v (.int .i64 p0))),(31,true,.c (.v c.segments.val)),(32,true,.c (.v (.int .i64 c.segments.l.length))),(33,true,.c (.v (.int .i64 i))),(49,true,.g [.v c.points.val,.v c.segments.val]),(51,true,.c (.v pts.val)),(53,true,.c (.v (.int .i64 y))),(57,true,.c (.v r.val)),(59,true,.c (.v (.int .i64 i))),(62,true,.c (.v (.int .i64 to))),(63,true,.c (.v o.val)),(55,true,.c (.s 1)),(56,true,.c (.s 2))],[(0,.box 57 [.v c.points.val,.v c.segments.val]),(1,.row 3 1 (pts.l.length+1) (pts.l.flatMap Enc.enc ++ [.int .i64 y])),(2,.row 3 1 0 [])],hk,3⟩ ?_ fun N4=>?_
     ·refine U_m 9 [11] ⟨?_,?_,trivial⟩
      ·refine U_b 9 0 [0] rfl rfl ?_
       simp only [go_sem,jq,jj,jy,jv,jk,jx,hallp,hallr,Option.isSome_some,Option.getD_some,true_and,Nat.zero_add,List.nil_append]
       refine ⟨fun u hu=>zZ1 hu,by simp only [maxLen];omega,by omega,?_⟩
       refine zZZ [0,1,3] N2 rfl rfl ?_
       refine Evs ?_
       exact Gk
      ·refine U_b 11 0 [0] rfl rfl ?_
       simp only [go_sem,jq,jj,jy,jv,jk,jx,hallp,hallr,Option.isSome_some,Option.getD_some,true_and,Nat.zero_add,List.nil_append]
       refine zZZ [0,1,2,3] N3 rfl rfl ?_
       refine Evs ?_
       exact Gk
     refine zZY 5 #[true,true,true,true,true,true,true,false,true,false,true,true,false,true,true,false,false] ⟨[(1,true,.c (.v pts.val)),(2,true,.c (.v r.val)),(3,true,.c (.v (.int .i64 to))),(4,true,.c (.v o.val)),(5,true,.c (.p 0 0)),(10,true,.c (.v (.slice none 0 0))),(11,true,.c (.v (.int .i64 p0))),(31,true,.c (.v c.segments.val)),(32,true,.c (.v (.int .i64 c.segments.l.length))),(33,true,.c (.v (.int .i64 i))),(49,true,.g [.v c.points.val,.v c.segments.val]),(51,true,.c (.v pts.val)),(53,true,.c (.v (.int .i64 y))),(57,true,.c (.v r.val)),(59,true,.c (.v (.int .i64 i))),(62,true,.c (.v (.int .i64 to))),(63,true,.c (.v o.val)),(55,true,.c (.s 1)),(60,true,.c (.s 2))],[(0,.box 57 [.v c.points.val,.v c.segments.val]),(1,.row 3 1 (pts.l.length+1) (pts.l.flatMap Enc.enc ++ [.int .i64 y])),(2,.row 3 1 1 [.int .i64 i])],hk,3⟩ ?_ fun N5=>?_
     ·refine U_m 7 [] ⟨?_,trivial⟩
      ·refine U_b 7 0 [0] rfl rfl ?_
       simp only [go_sem,jq,jj,jy,jv,jk,jx,hallp,hallr,Option.isSome_some,Option.getD_some,true_and,Nat.zero_add,List.nil_append]
       refine zZZ [0,1,3,2] N3 rfl rfl ?_
       refine Evs ?_
       exact Gk
     refine zZY 5 #[true,true,true,true,true,true,false,true,true,false,true,true,false,true,true,false,false] ⟨[(1,true,.c (.v pts.val)),(2,true,.c (.v r.val)),(3,true,.c (.v (.int .i64 to))),(4,true,.c (.v o.val)),(5,true,.c (.p 0 0)),(10,true,.c (.v (.slice none 0 0))),(11,true,.c (.v (.int .i64 p0))),(31,true,.c (.v c.segments.val)),(32,true,.c (.v (.int .i64 c.segments.l.length))),(33,true,.c (.v (.int .i64 i))),(49,true,.g [.v c.points.val,.v c.segments.val]),(51,true,.c (.v pts.val)),(53,true,.c (.v (.int .i64 y))),(57,true,.c (.v r.val)),(59,true,.c (.v (.int .i64 i))),(62,true,.c (.v (.int .i64 to))),(63,true,.c (.v o.val)),(52,true,.c (.s 1)),(54,true,.c (.s 2)),(56,true,.c (.s 3)),(60,true,.c (.s 4))],[(0,.box 57 [.v c.points.val,.v c.segments.val]),(1,.row 3 1 pts.l.length (pts.l.flatMap Enc.enc)),(2,.row 3 1 1 [.int .i64 y]),(3,.row 3 1 0 []),(4,.row 3 1 1 [.int .i64 i])],hk,5⟩ ?_ fun N6=>?_
     ·refine U_m 6 [] ⟨?_,trivial⟩
      ·refine U_b 6 0 [0] rfl rfl ?_
       simp only [go_sem,jq,jj,jy,jv,jk,jx,hallp,hallr,Option.isSome_some,Option.getD_some,true_and,Nat.zero_add,List.nil_append]
       refine ⟨by simp only [maxLen];omega,by omega,?_⟩
       refine zZZ [0,5,3,4] N3 rfl rfl ?_
       refine Evs ?_
       exact Gk
     refine zZY 6 #[true,true,true,true,true,true,true,false,true,false,true,false,false,true,true,false,false] ⟨[(1,true,.c (.v pts.val)),(2,true,.c (.v r.val)),(3,true,.c (.v (.int .i64 to))),(4,true,.c (.v o.val)),(5,true,.c (.p 0 0)),(10,true,.c (.v (.slice none 0 0))),(11,true,.c (.v (.int .i64 p0))),(31,true,.c (.v c.segments.val)),(32,true,.c (.v (.int .i64 c.segments.l.length))),(33,true,.c (.v (.int .i64 i))),(49,true,.g [.v c.points.val,.v c.segments.val]),(51,true,.c (.v pts.val)),(53,true,.c (.v (.int .i64 y))),(57,true,.c (.v r.val)),(59,true,.c (.v (.int .i64 i))),(62,true,.c (.v (.int .i64 to))),(63,true,.c (.v o.val)),(55,true,.c (.s 1))],[(0,.box 57 [.v c.points.val,.v c.segments.val]),(1,.row 3 1 (pts.l.length+1) (pts.l.flatMap Enc.enc ++ [.int .i64 y]))],hk,2⟩ ?_ fun N7=>?_
     ·refine U_m 7 [11] ⟨?_,?_,trivial⟩
      ·refine U_b 7 0 [0] rfl rfl ?_
       simp only [go_sem,jq,jj,jy,jv,jk,jx,hallp,hallr,Option.isSome_some,Option.getD_some,true_and,Nat.zero_add,List.nil_append]
       refine zZZ [0,1,2] N4 rfl rfl ?_
       refine Evs ?_
       exact Gk
      ·refine U_b 11 0 [0] rfl rfl ?_
       simp only [go_sem,jq,jj,jy,jv,jk,jx,hallp,hallr,Option.isSome_some,Option.getD_some,true_and,Nat.zero_add,List.nil_append]
       refine zZZ [0,1,2] N5 rfl rfl ?_
       refine Evs ?_
       exact Gk
     refine zZY 6 #[true,true,true,true,true,true,false,true,true,false,true,false,false,true,true,false,false] ⟨[(1,true,.c (.v pts.val)),(2,true,.c (.v r.val)),(3,true,.c (.v (.int .i64 to))),(4,true,.c (.v o.val)),(5,true,.c (.p 0 0)),(10,true,.c (.v (.slice none 0 0))),(11,true,.c (.v (.int .i64 p0))),(31,true,.c (.v c.segments.val)),(32,true,.c (.v (.int .i64 c.segments.l.length))),(33,true,.c (.v (.int .i64 i))),(49,true,.g [.v c.points.val,.v c.segments.val]),(51,true,.c (.v pts.val)),(53,true,.c (.v (.int .i64 y))),(57,true,.c (.v r.val)),(59,true,.c (.v (.int .i64 i))),(62,true,.c (.v (.int .i64 to))),(63,true,.c (.v o.val)),(52,true,.c (.s 1)),(54,true,.c (.s 2)),(56,true,.c (.s 3))],[(0,.box 57 [.v c.points.val,.v c.segments.val]),(1,.row 3 1 pts.l.length (pts.l.flatMap Enc.enc)),(2,.row 3 1 1 [.int .i64 y]),(3,.row 3 1 0 [])],hk,4⟩ ?_ fun N8=>?_
     ·refine U_m 6 [11] ⟨?_,?_,trivial⟩
      ·refine U_b 6 0 [0] rfl rfl ?_
       simp only [go_sem,jq,jj,jy,jv,jk,jx,hallp,hallr,Option.isSome_some,Option.getD_some,true_and,Nat.zero_add,List.nil_append]
       refine ⟨by simp only [maxLen];omega,by omega,?_⟩
       refine zZZ [0,4,3] N4 rfl rfl ?_
       refine Evs ?_
       exact Gk
      ·refine U_b 11 0 [0] rfl rfl ?_
       simp only [go_sem,jq,jj,jy,jv,jk,jx,hallp,hallr,Option.isSome_some,Option.getD_some,true_and,Nat.zero_add,List.nil_append]
       refine zZZ [0,1,2,3,4] N6 rfl rfl ?_
       refine Evs ?_
       exact Gk
     refine zZY 6 #[true,true,true,true,true,true,false,false,true,false,true,true,false,true,true,false,false] ⟨[(1,true,.c (.v pts.val)),(2,true,.c (.v r.val)),(3,true,.c (.v (.int .i64 to))),(4,true,.c (.v o.val)),(5,true,.c (.p 0 0)),(10,true,.c (.v (.slice none 0 0))),(11,true,.c (.v (.int .i64 p0))),(31,true,.c (.v c.segments.val)),(32,true,.c (.v (.int .i64 c.segments.l.length))),(33,true,.c (.v (.int .i64 i))),(49,true,.g [.v c.points.val,.v c.segments.val]),(51,true,.c (.v pts.val)),(53,true,.c (.v (.int .i64 y))),(57,true,.c (.v r.val)),(59,true,.c (.v (.int .i64 i))),(62,true,.c (.v (.int .i64 to))),(63,true,.c (.v o.val)),(52,true,.c (.s 1)),(54,true,.c (.s 2)),(60,true,.c (.s 3))],[(0,.box 57 [.v c.points.val,.v c.segments.val]),(1,.row 3 1 pts.l.length (pts.l.flatMap Enc.enc)),(2,.row 3 1 1 [.int .i64 y]),(3,.row 3 1 1 [.int .i64 i])],hk,4⟩ ?_ fun N9=>?_
     ·refine U_m 6 [7] ⟨?_,?_,trivial⟩
      ·refine U_b 6 0 [0] rfl rfl ?_
       simp only [go_sem,jq,jj,jy,jv,jk,jx,hallp,hallr,Option.isSome_some,Option.getD_some,true_and,Nat.zero_add,List.nil_append]
       refine ⟨by simp only [maxLen];omega,by omega,?_⟩
       refine zZZ [0,4,3] N5 rfl rfl ?_
       refine Evs ?_
       exact Gk
      ·refine U_b 7 0 [0] rfl rfl ?_
       simp only [go_sem,jq,jj,jy,jv,jk,jx,hallp,hallr,Option.isSome_some,Option.getD_some,true_and,Nat.zero_add,List.nil_append]
       refine zZZ [0,1,2,4,3] N6 rfl rfl ?_
       refine Evs ?_
       exact Gk
     refine zZY 6 #[true,true,true,true,true,false,false,true,true,false,true,true,false,true,true,false,false] ⟨[(1,true,.c (.v pts.val)),(2,true,.c (.v r.val)),(3,true,.c (.v (.int .i64 to))),(4,true,.c (.v o.val)),(5,true,.c (.p 0 0)),(10,true,.c (.v (.slice none 0 0))),(11,true,.c (.v (.int .i64 p0))),(31,true,.c (.v c.segments.val)),(32,true,.c (.v (.int .i64 c.segments.l.length))),(33,true,.c (.v (.int .i64 i))),(49,true,.g [.v c.points.val,.v c.segments.val]),(51,true,.c (.v pts.val)),(53,true,.c (.v (.int .i64 y))),(57,true,.c (.v r.val)),(59,true,.c (.v (.int .i64 i))),(62,true,.c (.v (.int .i64 to))),(63,true,.c (.v o.val)),(52,true,.c (.s 1)),(56,true,.c (.s 2)),(60,true,.c (.s 3))],[(0,.box 57 [.v c.points.val,.v c.segments.val]),(1,.row 3 1 pts.l.length (pts.l.flatMap Enc.enc)),(2,.row 3 1 0 []),(3,.row 3 1 1 [.int .i64 i])],hk,4⟩ ?_ fun N10=>?_
     ·refine U_m 5 [] ⟨?_,trivial⟩
      ·refine U_b 5 0 [0] rfl rfl ?_
       simp only [go_sem,jq,jj,jy,jv,jk,jx,hallp,hallr,Option.isSome_some,Option.getD_some,true_and,Nat.zero_add,List.nil_append]
       refine zZZ [0,1,4,2,3] N6 rfl rfl ?_
       refine Evs ?_
       exact Gk
     refine zZY 6 #[true,true,true,false,true,true,false,true,true,false,true,true,false,true,true,false,false] ⟨[(1,true,.c (.v pts.val)),(2,true,.c (.v r.val)),(3,true,.c (.v (.int .i64 to))),(4,true,.c (.v o.val)),(5,true,.c (.p 0 0)),(10,true,.c (.v (.slice none 0 0))),(11,true,.c (.v (.int .i64 p0))),(31,true,.c (.v c.segments.val)),(32,true,.c (.v (.int .i64 c.segments.l.length))),(33,true,.c (.v (.int .i64 i))),(49,true,.g [.v c.points.val,.v c.segments.val]),(51,true,.c (.v pts.val)),(53,true,.c (.v (.int .i64 y))),(57,true,.c (.v r.val)),(59,true,.c (.v (.int .i64 i))),(62,true,.c (.v (.int .i64 to))),(63,true,.c (.v o.val)),(50,true,.c (.s 1)),(54,true,.c (.s 2)),(56,true,.c (.s 3)),(60,true,.c (.s 4))],[(0,.box 57 [.v c.points.val,.v c.segments.val]),(1,.row 3 1 0 []),(2,.row 3 1 1 [.int .i64 y]),(3,.row 3 1 0 []),(4,.row 3 1 1 [.int .i64 i])],hk,5⟩ ?_ fun N11=>?_
     ·refine U_m 3 [] ⟨?_,trivial⟩
      ·refine U_b 3 0 [0] rfl rfl ?_
       simp only [go_sem,jq,jj,jy,jv,jk,jx,hallp,hallr,Option.isSome_some,Option.getD_some,true_and,Nat.zero_add,List.nil_append]
       refine ⟨fun u hu=>zZ1 hu,by simp only [maxLen];omega,by omega,?_⟩
       refine zZZ [0,5,2,3,4] N6 rfl rfl ?_
       refine Evs ?_
       exact Gk
     refine zZY 7 #[true,true,true,true,true,true,false,false,true,false,true,false,false,true,true,false,false] ⟨[(1,true,.c (.v pts.val)),(2,true,.c (.v r.val)),(3,true,.c (.v (.int .i64 to))),(4,true,.c (.v o.val)),(5,true,.c (.p 0 0)),(10,true,.c (.v (.slice none 0 0))),(11,true,.c (.v (.int .i64 p0))),(31,true,.c (.v c.segments.val)),(32,true,.c (.v (.int .i64 c.segments.l.length))),(33,true,.c (.v (.int .i64 i))),(49,true,.g [.v c.points.val,.v c.segments.val]),(51,true,.c (.v pts.val)),(53,true,.c (.v (.int .i64 y))),(57,true,.c (.v r.val)),(59,true,.c (.v (.int .i64 i))),(62,true,.c (.v (.int .i64 to))),(63,true,.c (.v o.val)),(52,true,.c (.s 1)),(54,true,.c (.s 2))],[(0,.box 57 [.v c.points.val,.v c.segments.val]),(1,.row 3 1 pts.l.length (pts.l.flatMap Enc.enc)),(2,.row 3 1 1 [.int .i64 y])],hk,3⟩ ?_ fun N12=>?_
     ·refine U_m 6 [7,11] ⟨?_,?_,?_,trivial⟩
      ·refine U_b 6 0 [0] rfl rfl ?_
       simp only [go_sem,jq,jj,jy,jv,jk,jx,hallp,hallr,Option.isSome_some,Option.getD_some,true_and,Nat.zero_add,List.nil_append]
       refine ⟨by simp only [maxLen];omega,by omega,?_⟩
       refine zZZ [0,3] N7 rfl rfl ?_
       refine Evs ?_
       exact Gk
      ·refine U_b 7 0 [0] rfl rfl ?_
       simp only [go_sem,jq,jj,jy,jv,jk,jx,hallp,hallr,Option.isSome_some,Option.getD_some,true_and,Nat.zero_add,List.nil_append]
       refine zZZ [0,1,2,3] N8 rfl rfl ?_
       refine Evs ?_
       exact Gk
      ·refine U_b 11 0 [0] rfl rfl ?_
       simp only [go_sem,jq,jj,jy,jv,jk,jx,hallp,hallr,Option.isSome_some,Option.getD_some,true_and,Nat.zero_add,List.nil_append]
       refine zZZ [0,1,2,3] N9 rfl rfl ?_
       refine Evs ?_
       exact Gk
     refine zZY 7 #[true,true,true,true,true,false,false,true,true,false,true,false,false,true,true,false,false] ⟨[(1,true,.c (.v pts.val)),(2,true,.c (.v r.val)),(3,true,.c (.v (.int .i64 to))),(4,true,.c (.v o.val)),(5,true,.c (.p 0 0)),(10,true,.c (.v (.slice none 0 0))),(11,true,.c (.v (.int .i64 p0))),(31,true,.c (.v c.segments.val)),(32,true,.c (.v (.int .i64 c.segments.l.length))),(33,true,.c (.v (.int .i64 i))),(49,true,.g [.v c.points.val,.v c.segments.val]),(51,true,.c (.v pts.val)),(53,true,.c (.v (.int .i64 y))),(57,true,.c (.v r.val)),(59,true,.c (.v (.int .i64 i))),(62,true,.c (.v (.int .i64 to))),(63,true,.c (.v o.val)),(52,true,.c (.s 1)),(56,true,.c (.s 2))],[(0,.box 57 [.v c.points.val,.v c.segments.val]),(1,.row 3 1 pts.l.length (pts.l.flatMap Enc.enc)),(2,.row 3 1 0 [])],hk,3⟩ ?_ fun N13=>?_
     ·refine U_m 5 [11] ⟨?_,?_,trivial⟩
      ·refine U_b 5 0 [0] rfl rfl ?_
       simp only [go_sem,jq,jj,jy,jv,jk,jx,hallp,hallr,Option.isSome_some,Option.getD_some,true_and,Nat.zero_add,List.nil_append]
       refine zZZ [0,1,3,2] N8 rfl rfl ?_
       refine Evs ?_
       exact Gk
      ·refine U_b 11 0 [0] rfl rfl ?_
       simp only [go_sem,jq,jj,jy,jv,jk,jx,hallp,hallr,Option.isSome_some,Option.getD_some,true_and,Nat.zero_add,List.nil_append]
       refine zZZ [0,1,2,3] N10 rfl rfl ?_
       refine Evs ?_
       exact Gk
     refine zZY 7 #[true,true,true,true,true,false,false,false,true,false,true,true,false,true,true,false,false] ⟨[(1,true,.c (.v pts.val)),(2,true,.c (.v r.val)),(3,true,.c (.v (.int .i64 to))),(4,true,.c (.v o.val)),(5,true,.c (.p 0 0)),(10,true,.c (.v (.slice none 0 0))),(11,true,.c (.v (.int .i64 p0))),(31,true,.c (.v c.segments.val)),(32,true,.c (.v (.int .i64 c.segments.l.length))),(33,true,.c (.v (.int .i64 i))),(49,true,.g [.v c.points.val,.v c.segments.val]),(51,true,.c (.v pts.val)),(53,true,.c (.v (.int .i64 y))),(57,true,.c (.v r.val)),(59,true,.c (.v (.int .i64 i))),(62,true,.c (.v (.int .i64 to))),(63,true,.c (.v o.val)),(52,true,.c (.s 1)),(60,true,.c (.s 2))],[(0,.box 57 [.v c.points.val,.v c.segments.val]),(1,.row 3 1 pts.l.length (pts.l.flatMap Enc.enc)),(2,.row 3 1 1 [.int .i64 i])],hk,3⟩ ?_ fun N14=>?_
     ·refine U_m 5 [7] ⟨?_,?_,trivial⟩
      ·refine U_b 5 0 [0] rfl rfl ?_
       simp only [go_sem,jq,jj,jy,jv,jk,jx,hallp,hallr,Option.isSome_some,Option.getD_some,true_and,Nat.zero_add,List.nil_append]
       refine zZZ [0,1,3,2] N9 rfl rfl ?_
       refine Evs ?_
       exact Gk
      ·refine U_b 7 0 [0] rfl rfl ?_
       simp only [go_sem,jq,jj,jy,jv,jk,jx,hallp,hallr,Option.isSome_some,Option.getD_some,true_and,Nat.zero_add,List.nil_append]
       refine zZZ [0,1,3,2] N10 rfl rfl ?_
       refine Evs ?_
       exact Gk
     refine zZY 7 #[true,true,true,false,true,true,false,true,true,false,true,false,false,true,true,false,false] ⟨[(1,true,.c (.v pts.val)),(2,true,.c (.v r.val)),(3,true,.c (.v (.int .i64 to))),(4,true,.c (.v o.val)),(5,true,.c (.p 0 0)),(10,true,.c (.v (.slice none 0 0))),(11,true,.c (.v (.int .i64 p0))),(31,true,.c (.v c.segments.val)),(32,true,.c (.v (.int .i64 c.segments.l.length))),(33,true,.c (.v (.int .i64 i))),(49,true,.g [.v c.points.val,.v c.segments.val]),(51,true,.c (.v pts.val)),(53,true,.c (.v (.int .i64 y))),(57,true,.c (.v r.val)),(59,true,.c (.v (.int .i64 i))),(62,true,.c (.v (.int .i64 to))),(63,true,.c (.v o.val)),(50,true,.c (.s 1)),(54,true,.c (.s 2)),(56,true,.c (.s 3))],[(0,.box 57 [.v c.points.val,.v c.segments.val]),(1,.row 3 1 0 []),(2,.row 3 1 1 [.int .i64 y]),(3,.row 3 1 0 [])],hk,4⟩ ?_ fun N15=>?_
     ·refine U_m 3 [11] ⟨?_,?_,trivial⟩
      ·refine U_b 3 0 [0] rfl rfl ?_
       simp only [go_sem,jq,jj,jy,jv,jk,jx,hallp,hallr,Option.isSome_some,Option.getD_some,true_and,Nat.zero_add,List.nil_append]
       refine ⟨fun u hu=>zZ1 hu,by simp only [maxLen];omega,by omega,?_⟩
       refine zZZ [0,4,2,3] N8 rfl rfl ?_
       refine Evs ?_
       exact Gk
      ·refine U_b 11 0 [0] rfl rfl ?_
       simp only [go_sem,jq,jj,jy,jv,jk,jx,hallp,hallr,Option.isSome_some,Option.getD_some,true_and,Nat.zero_add,List.nil_append]
       refine zZZ [0,1,2,3,4] N11 rfl rfl ?_
       refine Evs ?_
       exact Gk
     refine zZY 7 #[true,true,true,false,true,true,false,false,true,false,true,true,false,true,true,false,false] ⟨[(1,true,.c (.v pts.val)),(2,true,.c (.v r.val)),(3,true,.c (.v (.int .i64 to))),(4,true,.c (.v o.val)),(5,true,.c (.p 0 0)),(10,true,.c (.v (.slice none 0 0))),(11,true,.c (.v (.int .i64 p0))),(31,true,.c (.v c.segments.val)),(32,true,.c (.v (.int .i64 c.segments.l.length))),(33,true,.c (.v (.int .i64 i))),(49,true,.g [.v c.points.val,.v c.segments.val]),(51,true,.c (.v pts.val)),(53,true,.c (.v (.int .i64 y))),(57,true,.c (.v r.val)),(59,true,.c (.v (.int .i64 i))),(62,true,.c (.v (.int .i64 to))),(63,true,.c (.v o.val)),(50,true,.c (.s 1)),(54,true,.c (.s 2)),(60,true,.c (.s 3))],[(0,.box 57 [.v c.points.val,.v c.segments.val]),(1,.row 3 1 0 []),(2,.row 3 1 1 [.int .i64 y]),(3,.row 3 1 1 [.int .i64 i])],hk,4⟩ ?_ fun N16=>?_
     ·refine U_m 3 [7] ⟨?_,?_,trivial⟩
      ·refine U_b 3 0 [0] rfl rfl ?_
       simp only [go_sem,jq,jj,jy,jv,jk,jx,hallp,hallr,Option.isSome_some,Option.getD_some,true_and,Nat.zero_add,List.nil_append]
       refine ⟨fun u hu=>zZ1 hu,by simp only [maxLen];omega,by omega,?_⟩
       refine zZZ [0,4,2,3] N9 rfl rfl ?_
       refine Evs ?_
       exact Gk
      ·refine U_b 7 0 [0] rfl rfl ?_
       simp only [go_sem,jq,jj,jy,jv,jk,jx,hallp,hallr,Option.isSome_some,Option.getD_some,true_and,Nat.zero_add,List.nil_append]
       refine zZZ [0,1,2,4,3] N11 rfl rfl ?_
       refine Evs ?_
       exact Gk
     refine zZY 7 #[true,true,true,false,true,false,false,true,true,false,true,true,false,true,true,false,false] ⟨[(1,true,.c (.v pts.val)),(2,true,.c (.v r.val)),(3,true,.c (.v (.int .i64 to))),(4,true,.c (.v o.val)),(5,true,.c (.p 0 0)),(10,true,.c (.v (.slice none 0 0))),(11,true,.c (.v (.int .i64 p0))),(31,true,.c (.v c.segments.val)),(32,true,.c (.v (.int .i64 c.segments.l.length))),(33,true,.c (.v (.int .i64 i))),(49,true,.g [.v c.points.val,.v c.segments.val]),(51,true,.c (.v pts.val)),(53,true,.c (.v (.int .i64 y))),(57,true,.c (.v r.val)),(59,true,.c (.v (.int .i64 i))),(62,true,.c (.v (.int .i64 to))),(63,true,.c (.v o.val)),(50,true,.c (.s 1)),(56,true,.c (.s 2)),(60,true,.c (.s 3))],[(0,.box 57 [.v c.points.val,.v c.segments.val]),(1,.row 3 1 0 []),(2,.row 3 1 0 []),(3,.row 3 1 1 [.int .i64 i])],hk,4⟩ ?_ fun N17=>?_
     ·refine U_m 3 [5] ⟨?_,?_,trivial⟩
      ·refine U_b 3 0 [0] rfl rfl ?_
       simp only [go_sem,jq,jj,jy,jv,jk,jx,hallp,hallr,Option.isSome_some,Option.getD_some,true_and,Nat.zero_add,List.nil_append]
       refine ⟨fun u hu=>zZ1 hu,by simp only [maxLen];omega,by omega,?_⟩
       refine zZZ [0,4,2,3] N10 rfl rfl ?_
       refine Evs ?_
       exact Gk
      ·refine U_b 5 0 [0] rfl rfl ?_
       simp only [go_sem,jq,jj,jy,jv,jk,jx,hallp,hallr,Option.isSome_some,Option.getD_some,true_and,Nat.zero_add,List.nil_append]
       refine zZZ [0,1,4,2,3] N11 rfl rfl ?_
       refine Evs ?_
       exact Gk
     refine zZY 7 #[true,false,true,false,true,true,false,true,true,false,true,true,false,true,true,false,false] ⟨[(1,true,.c (.v pts.val)),(2,true,.c (.v r.val)),(3,true,.c (.v (.int .i64 to))),(4,true,.c (.v o.val)),(5,true,.c (.p 0 0)),(10,true,.c (.v (.slice none 0 0))),(11,true,.c (.v (.int .i64 p0))),(31,true,.c (.v c.segments.val)),(32,true,.c (.v (.int .i64 c.segments.l.length))),(33,true,.c (.v (.int .i64 i))),(49,true,.g [.v c.points.val,.v c.segments.val]),(51,true,.c (.v pts.val)),(53,true,.c (.v (.int .i64 y))),(57,true,.c (.v r.val)),(59,true,.c (.v (.int .i64 i))),(62,true,.c (.v (.int .i64 to))),(63,true,.c (.v o.val)),(54,true,.c (.s 1)),(56,true,.c (.s 2)),(60,true,.c (.s 3))],[(0,.box 57 [.v c.points.val,.v c.segments.val]),(1,.row 3 1 1 [.int .i64 y]),(2,.row 3 1 0 []),(3,.row 3 1 1 [.int .i64 i])],hk,4⟩ ?_ fun N18=>?_
     ·refine U_m 1 [] ⟨?_,trivial⟩
      ·refine U_b 1 0 [0] rfl rfl ?_
       simp only [go_sem,jq,jj,jy,jv,jk,jx,hallp,hallr,Option.isSome_some,Option.getD_some,true_and,Nat.zero_add,List.nil_append]
       refine zZZ [0,4,1,2,3] N11 rfl rfl ?_
       refine Evs ?_
       exact Gk
     refine zZY 8 #[true,true,true,true,true,false,false,false,true,false,true,false,false,true,true,false,false] ⟨[(1,true,.c (.v pts.val)),(2,true,.c (.v r.val)),(3,true,.c (.v (.int .i64 to))),(4,true,.c (.v o.val)),(5,true,.c (.p 0 0)),(10,true,.c (.v (.slice none 0 0))),(11,true,.c (.v (.int .i64 p0))),(31,true,.c (.v c.segments.val)),(32,true,.c (.v (.int .i64 c.segments.l.length))),(33,true,.c (.v (.int .i64 i))),(49,true,.g [.v c.points.val,.v c.segments.val]),(51,true,.c (.v pts.val)),(53,true,.c (.v (.int .i64 y))),(57,true,.c (.v r.val)),(59,true,.c (.v (.int .i64 i))),(62,true,.c (.v (.int .i64 to))),(63,true,.c (.v o.val)),(52,true,.c (.s 1))],[(0,.box 57 [.v c.points.val,.v c.segments.val]),(1,.row 3 1 pts.l.length (pts.l.flatMap Enc.enc))],hk,2⟩ ?_ fun N19=>?_
     ·refine U_m 5 [7,11] ⟨?_,?_,?_,trivial⟩
      ·refine U_b 5 0 [0] rfl rfl ?_
       simp only [go_sem,jq,jj,jy,jv,jk,jx,hallp,hallr,Option.isSome_some,Option.getD_some,true_and,Nat.zero_add,List.nil_append]
       refine zZZ [0,1,2] N12 rfl rfl ?_
       refine Evs ?_
       exact Gk
      ·refine U_b 7 0 [0] rfl rfl ?_
       simp only [go_sem,jq,jj,jy,jv,jk,jx,hallp,hallr,Option.isSome_some,Option.getD_some,true_and,Nat.zero_add,List.nil_append]
       refine zZZ [0,1,2] N13 rfl rfl ?_
       refine Evs ?_
       exact Gk
      ·refine U_b 11 0 [0] rfl rfl ?_
       simp only [go_sem,jq,jj,jy,jv,jk,jx,hallp,hallr,Option.isSome_some,Option.getD_some,true_and,Nat.zero_add,List.nil_append]
       refine zZZ [0,1,2] N14 rfl rfl ?_
       refine Evs ?_
       exact Gk
     refine zZY 8 #[true,true,true,false,true,true,false,false,true,false,true,false,false,true,true,false,false] ⟨[(1,true,.c (.v pts.val)),(2,true,.c (.v r.val)),(3,true,.c (.v (.int .i64 to))),(4,true,.c (.v o.val)),(5,true,.c (.p 0 0)),(10,true,.c (.v (.slice none 0 0))),(11,true,.c (.v (.int .i64 p0))),(31,true,.c (.v c.segments.val)),(32,true,.c (.v (.int .i64 c.segments.l.length))),(33,true,.c (.v (.int .i64 i))),(49,true,.g [.v c.points.val,.v c.segments.val]),(51,true,.c (.v pts.val)),(53,true,.c (.v (.int .i64 y))),(57,true,.c (.v r.val)),(59,true,.c (.v (.int .i64 i))),(62,true,.c (.v (.int .i64 to))),(63,true,.c (.v o.val)),(50,true,.c (.s 1)),(54,true,.c (.s 2))],[(0,.box 57 [.v c.points.val,.v c.segments.val]),(1,.row 3 1 0 []),(2,.row 3 1 1 [.int .i64 y])],hk,3⟩ ?_ fun N20=>?_
     ·refine U_m 3 [7,11] ⟨?_,?_,?_,trivial⟩
      ·refine U_b 3 0 [0] rfl rfl ?_
       simp only [go_sem,jq,jj,jy,jv,jk,jx,hallp,hallr,Option.isSome_some,Option.getD_some,true_and,Nat.zero_add,List.nil_append]
       refine ⟨fun u hu=>zZ1 hu,by simp only [maxLen];omega,by omega,?_⟩
       refine zZZ [0,3,2] N12 rfl rfl ?_
       refine Evs ?_
       exact Gk
      ·refine U_b 7 0 [0] rfl rfl ?_
       simp only [go_sem,jq,jj,jy,jv,jk,jx,hallp,hallr,Option.isSome_some,Option.getD_some,true_and,Nat.zero_add,List.nil_append]
       refine zZZ [0,1,2,3] N15 rfl rfl ?_
       refine Evs ?_
       exact Gk
      ·refine U_b 11 0 [0] rfl rfl ?_
       simp only [go_sem,jq,jj,jy,jv,jk,jx,hallp,hallr,Option.isSome_some,Option.getD_some,true_and,Nat.zero_add,List.nil_append]
       refine zZZ [0,1,2,3] N16 rfl rfl ?_
       refine Evs ?_
       exact Gk
     refine zZY 8 #[true,true,true,false,true,false,false,true,true,false,true,false,false,true,true,false,false] ⟨[(1,true,.c (.v pts.val)),(2,true,.c (.v r.val)),(3,true,.c (.v (.int .i64 to))),(4,true,.c (.v o.val)),(5,true,.c (.p 0 0)),(10,true,.c (.v (.slice none 0 0))),(11,true,.c (.v (.int .i64 p0))),(31,true,.c (.v c.segments.val)),(32,true,.c (.v (.int .i64 c.segments.l.length))),(33,true,.c (.v (.int .i64 i))),(49,true,.g [.v c.points.val,.v c.segments.val]),(51,true,.c (.v pts.val)),(53,true,.c (.v (.int .i64 y))),(57,true,.c (.v r.val)),(59,true,.c (.v (.int .i64 i))),(62,true,.c (.v (.int .i64 to))),(63,true,.c (.v o.val)),(50,true,.c (.s 1)),(56,true,.c (.s 2))],[(0,.box 57 [.v c.points.val,.v c.segments.val]),(1,.row 3 1 0 []),(2,.row 3 1 0 [])],hk,3⟩ ?_ fun N21=>?_
     ·refine U_m 3 [5,11] ⟨?_,?_,?_,trivial⟩
      ·refine U_b 3 0 [0] rfl rfl ?_
       simp only [go_sem,jq,jj,jy,jv,jk,jx,hallp,hallr,Option.isSome_some,Option.getD_some,true_and,Nat.zero_add,List.nil_append]
       refine ⟨fun u hu=>zZ1 hu,by simp only [maxLen];omega,by omega,?_⟩
       refine zZZ [0,3,2] N13 rfl rfl ?_
       refine Evs ?_
       exact Gk
      ·refine U_b 5 0 [0] rfl rfl ?_
       simp only [go_sem,jq,jj,jy,jv,jk,jx,hallp,hallr,Option.isSome_some,Option.getD_some,true_and,Nat.zero_add,List.nil_append]
       refine zZZ [0,1,3,2] N15 rfl rfl ?_
       refine Evs ?_
       exact Gk
      ·refine U_b 11 0 [0] rfl rfl ?_
       simp only [go_sem,jq,jj,jy,jv,jk,jx,hallp,hallr,Option.isSome_some,Option.getD_some,true_and,Nat.zero_add,List.nil_append]
       refine zZZ [0,1,2,3] N17 rfl rfl ?_
       refine Evs ?_
       exact Gk
     refine zZY 8 #[true,true,true,false,true,false,false,false,true,false,true,true,false,true,true,false,false] ⟨[(1,true,.c (.v pts.val)),(2,true,.c (.v r.val)),(3,true,.c (.v (.int .i64 to))),(4,true,.c (.v o.val)),(5,true,.c (.p 0 0)),(10,true,.c (.v (.slice none 0 0))),(11,true,.c (.v (.int .i64 p0))),(31,true,.c (.v c.segments.val)),(32,true,.c (.v (.int .i64 c.segments.l.length))),(33,true,.c (.v (.int .i64 i))),(49,true,.g [.v c.points.val,.v c.segments.val]),(51,true,.c (.v pts.val)),(53,true,.c (.v (.int .i64 y))),(57,true,.c (.v r.val)),(59,true,.c (.v (.int .i64 i))),(62,true,.c (.v (.int .i64 to))),(63,true,.c (.v o.val)),(50,true,.c (.s 1)),(60,true,.c (.s 2))],[(0,.box 57 [.v c.points.val,.v c.segments.val]),(1,.row 3 1 0 []),(2,.row 3 1 1 [.int .i64 i])],hk,3⟩ ?_ fun N22=>?_
     ·refine U_m 3 [5,7] ⟨?_,?_,?_,trivial⟩
      ·refine U_b 3 0 [0] rfl rfl ?_
       simp only [go_sem,jq,jj,jy,jv,jk,jx,hallp,hallr,Option.isSome_some,Option.getD_some,true_and,Nat.zero_add,List.nil_append]
       refine ⟨fun u hu=>zZ1 hu,by simp only [maxLen];omega,by omega,?_⟩
       refine zZZ [0,3,2] N14 rfl rfl ?_
       refine Evs ?_
       exact Gk
      ·refine U_b 5 0 [0] rfl rfl ?_
       simp only [go_sem,jq,jj,jy,jv,jk,jx,hallp,hallr,Option.isSome_some,Option.getD_some,true_and,Nat.zero_add,List.nil_append]
       refine zZZ [0,1,3,2] N16 rfl rfl ?_
       refine Evs ?_
       exact Gk
      ·refine U_b 7 0 [0] rfl rfl ?_
       simp only [go_sem,jq,jj,jy,jv,jk,jx,hallp,hallr,Option.isSome_some,Option.getD_some,true_and,Nat.zero_add,List.nil_append]
       refine zZZ [0,1,3,2] N17 rfl rfl ?_
       refine Evs ?_
       exact Gk
     refine zZY 8 #[true,false,true,false,true,true,false,true,true,false,true,false,false,true,true,false,false] ⟨[(1,true,.c (.v pts.val)),(2,true,.c (.v r.val)),(3,true,.c (.v (.int .i64 to))),(4,true,.c (.v o.val)),(5,true,.c (.p 0 0)),(10,true,.c (.v (.slice none 0 0))),(11,true,.c (.v (.int .i64 p0))),(31,true,.c (.v c.segments.val)),(32,true,.c (.v (.int .i64 c.segments.l.length))),(33,true,.c (.v (.int .i64 i))),(49,true,.g [.v c.points.val,.v c.segments.val]),(51,true,.c (.v pts.val)),(53,true,.c (.v (.int .i64 y))),(57,true,.c (.v r.val)),(59,true,.c (.v (.int .i64 i))),(62,true,.c (.v (.int .i64 to))),(63,true,.c (.v o.val)),(54,true,.c (.s 1)),(56,true,.c (.s 2))],[(0,.box 57 [.v c.points.val,.v c.segments.val]),(1,.row 3 1 1 [.int .i64 y]),(2,.row 3 1 0 [])],hk,3⟩ ?_ fun N23=>?_
     ·refine U_m 1 [11] ⟨?_,?_,trivial⟩
      ·refine U_b 1 0 [0] rfl rfl ?_
       simp only [go_sem,jq,jj,jy,jv,jk,jx,hallp,hallr,Option.isSome_some,Option.getD_some,true_and,Nat.zero_add,List.nil_append]
       refine zZZ [0,3,1,2] N15 rfl rfl ?_
       refine Evs ?_
       exact Gk
      ·refine U_b 11 0 [0] rfl rfl ?_
       simp only [go_sem,jq,jj,jy,jv,jk,jx,hallp,hallr,Option.isSome_some,Option.getD_some,true_and,Nat.zero_add,List.nil_append]
       refine zZZ [0,1,2,3] N18 rfl rfl ?_
       refine Evs ?_
       exact Gk
     refine zZY 8 #[true,false,true,false,true,true,false,false,true,false,true,true,false,true,true,false,false] ⟨[(1,true,.c (.v pts.val)),(2,true,.c (.v r.val)),(3,true,.c (.v (.int .i64 to))),(4,true,.c (.v o.val)),(5,true,.c (.p 0 0)),(10,true,.c (.v (.slice none 0 0))),(11,true,.c (.v (.int .i64 p0))),(31,true,.c (.v c.segments.val)),(32,true,.c (.v (.int .i64 c.segments.l.length))),(33,true,.c (.v (.int .i64 i))),(49,true,.g [.v c.points.val,.v c.segments.val]),(51,true,.c (.v pts.val)),(53,true,.c (.v (.int .i64 y))),(57,true,.c (.v r.val)),(59,true,.c (.v (.int .i64 i))),(62,true,.c (.v (.int .i64 to))),(63,true,.c (.v o.val)),(54,true,.c (.s 1)),(60,true,.c (.s 2))],[(0,.box 57 [.v c.points.val,.v c.segments.val]),(1,.row 3 1 1 [.int .i64 y]),(2,.row 3 1 1 [.int .i64 i])],hk,3⟩ ?_ fun N24=>?_
     ·refine U_m 1 [7] ⟨?_,?_,trivial⟩
      ·refine U_b 1 0 [0] rfl rfl ?_
       simp only [go_sem,jq,jj,jy,jv,jk,jx,hallp,hallr,Option.isSome_some,Option.getD_some,true_and,Nat.zero_add,List.nil_append]
       refine zZZ [0,3,1,2] N16 rfl rfl ?_
       refine Evs ?_
       exact Gk
      ·refine U_b 7 0 [0] rfl rfl ?_
       simp only [go_sem,jq,jj,jy,jv,jk,jx,hallp,hallr,Option.isSome_some,Option.getD_some,true_and,Nat.zero_add,List.nil_append]
       refine zZZ [0,1,3,2] N18 rfl rfl ?_
       refine Evs ?_
       exact Gk
     refine zZY 8 #[true,false,true,false,true,false,false,true,true,false,true,true,false,true,true,false,false] ⟨[(1,true,.c (.v pts.val)),(2,true,.c (.v r.val)),(3,true,.c (.v (.int .i64 to))),(4,true,.c (.v o.val)),(5,true,.c (.p 0 0)),(10,true,.c (.v (.slice none 0 0))),(11,true,.c (.v (.int .i64 p0))),(31,true,.c (.v c.segments.val)),(32,true,.c (.v (.int .i64 c.segments.l.length))),(33,true,.c (.v (.int .i64 i))),(49,true,.g [.v c.points.val,.v c.segments.val]),(51,true,.c (.v pts.val)),(53,true,.c (.v (.int .i64 y))),(57,true,.c (.v r.val)),(59,true,.c (.v (.int .i64 i))),(62,true,.c (.v (.int .i64 to))),(63,true,.c (.v o.val)),(56,true,.c (.s 1)),(60,true,.c (.s 2))],[(0,.box 57 [.v c.points.val,.v c.segments.val]),(1,.row 3 1 0 []),(2,.row 3 1 1 [.int .i64 i])],hk,3⟩ ?_ fun N25=>?_
     ·refine U_m 1 [5] ⟨?_,?_,trivial⟩
      ·refine U_b 1 0 [0] rfl rfl ?_
       simp only [go_sem,jq,jj,jy,jv,jk,jx,hallp,hallr,Option.isSome_some,Option.getD_some,true_and,Nat.zero_add,List.nil_append]
       refine zZZ [0,3,1,2] N17 rfl rfl ?_
       refine Evs ?_
       exact Gk
      ·refine U_b 5 0 [0] rfl rfl ?_
       simp only [go_sem,jq,jj,jy,jv,jk,jx,hallp,hallr,Option.isSome_some,Option.getD_some,true_and,Nat.zero_add,List.nil_append]
       refine zZZ [0,3,1,2] N18 rfl rfl ?_
       refine Evs ?_
       exact Gk
     refine zZY 9 #[true,true,true,false,true,false,false,false,true,false,true,false,false,true,true,false,false] ⟨[(1,true,.c (.v pts.val)),(2,true,.c (.v r.val)),(3,true,.c (.v (.int .i64 to))),(4,true,.c (.v o.val)),(5,true,.c (.p 0 0)),(10,true,.c (.v (.slice none 0 0))),(11,true,.c (.v (.int .i64 p0))),(31,true,.c (.v c.segments.val)),(32,true,.c (.v (.int .i64 c.segments.l.length))),(33,true,.c (.v (.int .i64 i))),(49,true,.g [.v c.points.val,.v c.segments.val]),(51,true,.c (.v pts.val)),(53,true,.c (.v (.int .i64 y))),(57,true,.c (.v r.val)),(59,true,.c (.v (.int .i64 i))),(62,true,.c (.v (.int .i64 to))),(63,true,.c (.v o.val)),(50,true,.c (.s 1))],[(0,.box 57 [.v c.points.val,.v c.segments.val]),(1,.row 3 1 0 [])],hk,2⟩ ?_ fun N26=>?_
     ·refine U_m 3 [5,7,11] ⟨?_,?_,?_,?_,trivial⟩
      ·refine U_b 3 0 [0] rfl rfl ?_
       simp only [go_sem,jq,jj,jy,jv,jk,jx,hallp,hallr,Option.isSome_some,Option.getD_some,true_and,Nat.zero_add,List.nil_append]
       refine ⟨fun u hu=>zZ1 hu,by simp only [maxLen];omega,by omega,?_⟩
       refine zZZ [0,2] N19 rfl rfl ?_
       refine Evs ?_
       exact Gk
      ·refine U_b 5 0 [0] rfl rfl ?_
       simp only [go_sem,jq,jj,jy,jv,jk,jx,hallp,hallr,Option.isSome_some,Option.getD_some,true_and,Nat.zero_add,List.nil_append]
       refine zZZ [0,1,2] N20 rfl rfl ?_
       refine Evs ?_
       exact Gk
      ·refine U_b 7 0 [0] rfl rfl ?_
       simp only [go_sem,jq,jj,jy,jv,jk,jx,hallp,hallr,Option.isSome_some,Option.getD_some,true_and,Nat.zero_add,List.nil_append]
       refine zZZ [0,1,2] N21 rfl rfl ?_
       refine Evs ?_
       exact Gk
      ·refine U_b 11 0 [0] rfl rfl ?_
       simp only [go_sem,jq,jj,jy,jv,jk,jx,hallp,hallr,Option.isSome_some,Option.getD_some,true_and,Nat.zero_add,List.nil_append]
       refine zZZ [0,1,2] N22 rfl rfl ?_
       refine Evs ?_
       exact Gk
     refine zZY 9 #[true,false,true,false,true,true,false,false,true,false,true,false,false,true,true,false,false] ⟨[(1,true,.c (.v pts.val)),(2,true,.c (.v r.val)),(3,true,.c (.v (.int .i64 to))),(4,true,.c (.v o.val)),(5,true,.c (.p 0 0)),(10,true,.c (.v (.slice none 0 0))),(11,true,.c (.v (.int .i64 p0))),(31,true,.c (.v c.segments.val)),(32,true,.c (.v (.int .i64 c.segments.l.length))),(33,true,.c (.v (.int .i64 i))),(49,true,.g [.v c.points.val,.v c.segments.val]),(51,true,.c (.v pts.val)),(53,true,.c (.v (.int .i64 y))),(57,true,.c (.v r.val)),(59,true,.c (.v (.int .i64 i))),(62,true,.c (.v (.int .i64 to))),(63,true,.c (.v o.val)),(54,true,.c (.s 1))],[(0,.box 57 [.v c.points.val,.v c.segments.val]),(1,.row 3 1 1 [.int .i64 y])],hk,2⟩ ?_ fun N27=>?_
     ·refine U_m 1 [7,11] ⟨?_,?_,?_,trivial⟩
      ·refine U_b 1 0 [0] rfl rfl ?_
       simp only [go_sem,jq,jj,jy,jv,jk,jx,hallp,hallr,Option.isSome_some,Option.getD_some,true_and,Nat.zero_add,List.nil_append]
       refine zZZ [0,2,1] N20 rfl rfl ?_
       refine Evs ?_
       exact Gk
      ·refine U_b 7 0 [0] rfl rfl ?_
       simp only [go_sem,jq,jj,jy,jv,jk,jx,hallp,hallr,Option.isSome_some,Option.getD_some,true_and,Nat.zero_add,List.nil_append]
       refine zZZ [0,1,2] N23 rfl rfl ?_
       refine Evs ?_
       exact Gk
      ·refine U_b 11 0 [0] rfl rfl ?_
       simp only [go_sem,jq,jj,jy,jv,jk,jx,hallp,hallr,Option.isSome_some,Option.getD_some,true_and,Nat.zero_add,List.nil_append]
       refine zZZ [0,1,2] N24 rfl rfl ?_
       refine Evs ?_
       exact Gk
     refine zZY 9 #[true,false,true,false,true,false,false,true,true,false,true,false,false,true,true,false,false] ⟨[(1,true,.c (.v pts.val)),(2,true,.c (.v r.val)),(3,true,.c (.v (.int .i64 to))),(4,true,.c (.v o.val)),(5,true,.c (.p 0 0)),(10,true,.c (.v (.slice none 0 0))),(11,true,.c (.v (.int .i64 p0))),(31,true,.c (.v c.segments.val)),(32,true,.c (.v (.int .i64 c.segments.l.length))),(33,true,.c (.v (.int .i64 i))),(49,true,.g [.v c.points.val,.v c.segments.val]),(51,true,.c (.v pts.val)),(53,true,.c (.v (.int .i64 y))),(57,true,.c (.v r.val)),(59,true,.c (.v (.int .i64 i))),(62,true,.c (.v (.int .i64 to))),(63,true,.c (.v o.val)),(56,true,.c (.s 1))],[(0,.box 57 [.v c.points.val,.v c.segments.val]),(1,.row 3 1 0 [])],hk,2⟩ ?_ fun N28=>?_
     ·refine U_m 1 [5,11] ⟨?_,?_,?_,trivial⟩
      ·refine U_b 1 0 [0] rfl rfl ?_
       simp only [go_sem,jq,jj,jy,jv,jk,jx,hallp,hallr,Option.isSome_some,Option.getD_some,true_and,Nat.zero_add,List.nil_append]
       refine zZZ [0,2,1] N21 rfl rfl ?_
       refine Evs ?_
       exact Gk
      ·refine U_b 5 0 [0] rfl rfl ?_
       simp only [go_sem,jq,jj,jy,jv,jk,jx,hallp,hallr,Option.isSome_some,Option.getD_some,true_and,Nat.zero_add,List.nil_append]
       refine zZZ [0,2,1] N23 rfl rfl ?_
       refine Evs ?_
       exact Gk
      ·refine U_b 11 0 [0] rfl rfl ?_
       simp only [go_sem,jq,jj,jy,jv,jk,jx,hallp,hallr,Option.isSome_some,Option.getD_some,true_and,Nat.zero_add,List.nil_append]
       refine zZZ [0,1,2] N25 rfl rfl ?_
       refine Evs ?_
       exact Gk
     refine zZY 9 #[true,false,true,false,true,false,false,false,true,false,true,true,false,true,true,false,false] ⟨[(1,true,.c (.v pts.val)),(2,true,.c (.v r.val)),(3,true,.c (.v (.int .i64 to))),(4,true,.c (.v o.val)),(5,true,.c (.p 0 0)),(10,true,.c (.v (.slice none 0 0))),(11,true,.c (.v (.int .i64 p0))),(31,true,.c (.v c.segments.val)),(32,true,.c (.v (.int .i64 c.segments.l.length))),(33,true,.c (.v (.int .i64 i))),(49,true,.g [.v c.points.val,.v c.segments.val]),(51,true,.c (.v pts.val)),(53,true,.c (.v (.int .i64 y))),(57,true,.c (.v r.val)),(59,true,.c (.v (.int .i64 i))),(62,true,.c (.v (.int .i64 to))),(63,true,.c (.v o.val)),(60,true,.c (.s 1))],[(0,.box 57 [.v c.points.val,.v c.segments.val]),(1,.row 3 1 1 [.int .i64 i])],hk,2⟩ ?_ fun N29=>?_
     ·refine U_m 1 [5,7] ⟨?_,?_,?_,trivial⟩
      ·refine U_b 1 0 [0] rfl rfl ?_
       simp only [go_sem,jq,jj,jy,jv,jk,jx,hallp,hallr,Option.isSome_some,Option.getD_some,true_and,Nat.zero_add,List.nil_append]
       refine zZZ [0,2,1] N22 rfl rfl ?_
       refine Evs ?_
       exact Gk
      ·refine U_b 5 0 [0] rfl rfl ?_
       simp only [go_sem,jq,jj,jy,jv,jk,jx,hallp,hallr,Option.isSome_some,Option.getD_some,true_and,Nat.zero_add,List.nil_append]
       refine zZZ [0,2,1] N24 rfl rfl ?_
       refine Evs ?_
       exact Gk
      ·refine U_b 7 0 [0] rfl rfl ?_
       simp only [go_sem,jq,jj,jy,jv,jk,jx,hallp,hallr,Option.isSome_some,Option.getD_some,true_and,Nat.zero_add,List.nil_append]
       refine zZZ [0,2,1] N25 rfl rfl ?_
       refine Evs ?_
       exact Gk
     refine zZY 10 #[true,false,true,false,true,false,false,false,true,false,true,false,false,true,true,false,false] ⟨[(1,true,.c (.v pts.val)),(2,true,.c (.v r.val)),(3,true,.c (.v (.int .i64 to))),(4,true,.c (.v o.val)),(5,true,.c (.p 0 0)),(10,true,.c (.v (.slice none 0 0))),(11,true,.c (.v (.int .i64 p0))),(31,true,.c (.v c.segments.val)),(32,true,.c (.v (.int .i64 c.segments.l.length))),(33,true,.c (.v (.int .i64 i))),(49,true,.g [.v c.points.val,.v c.segments.val]),(51,true,.c (.v pts.val)),(53,true,.c (.v (.int .i64 y))),(57,true,.c (.v r.val)),(59,true,.c (.v (.int .i64 i))),(62,true,.c (.v (.int .i64 to))),(63,true,.c (.v o.val))],[(0,.box 57 [.v c.points.val,.v c.segments.val])],hk,1⟩ ?_ fun N30=>?_
     ·refine U_m 1 [5,7,11] ⟨?_,?_,?_,?_,trivial⟩
      ·refine U_b 1 0 [0] rfl rfl ?_
       simp only [go_sem,jq,jj,jy,jv,jk,jx,hallp,hallr,Option.isSome_some,Option.getD_some,true_and,Nat.zero_add,List.nil_append]
       refine zZZ [0,1] N26 rfl rfl ?_
       refine Evs ?_
       exact Gk
      ·refine U_b 5 0 [0] rfl rfl ?_
       simp only [go_sem,jq,jj,jy,jv,jk,jx,hallp,hallr,Option.isSome_some,Option.getD_some,true_and,Nat.zero_add,List.nil_append]
       refine zZZ [0,1] N27 rfl rfl ?_
       refine Evs ?_
       exact Gk
      ·refine U_b 7 0 [0] rfl rfl ?_
       simp only [go_sem,jq,jj,jy,jv,jk,jx,hallp,hallr,Option.isSome_some,Option.getD_some,true_and,Nat.zero_add,List.nil_append]
       refine zZZ [0,1] N28 rfl rfl ?_
       refine Evs ?_
       exact Gk
      ·refine U_b 11 0 [0] rfl rfl ?_
       simp only [go_sem,jq,jj,jy,jv,jk,jx,hallp,hallr,Option.isSome_some,Option.getD_some,true_and,Nat.zero_add,List.nil_append]
       refine zZZ [0,1] N29 rfl rfl ?_
       refine Evs ?_
       exact Gk
     refine zZZ [0] N30 rfl rfl ?_
     refine Evs ?_
     exact Gk
    ·have hz:¬ (0≤y∧y ∉ pts.l):=fun H=>by
      rw [decide_eq_false H.2] at hz
      rcases Bool.and_eq_false_iff.1 hz with e|e
      ·exact of_decide_eq_false e H.1
      ·cases e
     rw [if_neg hz] at hat
     refine Wk ?_
     refine ⟨(hk,o),[0],⟨hWk,hfr,hle,by rw [hl];simp [List.flatMap_append,hat]⟩,?_⟩
     refine Evs ?_
     exact Gk
   rintro ⟨h3,o3⟩ ⟨W3,f3,l3,e3⟩
   simp only at W3 f3 l3 e3
   refine Wk ?_
   refine ⟨(i+1,h3,o3),[0],⟨hlt,W3,f3,l3,e3⟩,by simp only;omega,?_⟩
   refine Evs ?_
   exact Gi (zjA hlt (by omega))
  ·have hge:=zjI hd
   obtain rfl:i=c.segments.l.length:=by omega
   refine Wk ?_
   exact ⟨o,rfl,hl,hWk,hfr,hle⟩
theorem zx0 (a:Sl Int) (h:Hp) (ha:a.Ok h) (hz:a.l.length≤1048576):Ct jV 75 [a.val] h fun v h'=>∃ s:Sl Int,v=s.val∧s.l=a.l∧RowAt 3 h' s∧∀ g,s.a=some ⟨g,0,none⟩→h g=none:=by
 have hall:=ha.all (by decide)
 have hd:(h.ldL a.val 1).isSome=true:=by rw [show h.ldL a.val 1=_ from hall];rfl
 refine zdn (fun A W=>by simp) Tryz.func75 rfl rfl (by simp) fun W0=>?_
 repeat' first|refine Wa ?_|(simp only [go_sem,jq,jj,jy,jv,jk,jx,hall,show h.ldL a.val 1=some (a.l.flatMap Enc.enc) from hall,Option.isSome_some,Option.getD_some];try rfl)|refine Wb ?_|fail
 refine ⟨by simp only [maxLen];omega,by omega,?_⟩
 repeat' first|refine Wa ?_|(simp only [go_sem,jq,jj,jy,jv,jk,jx,hall,show h.ldL a.val 1=some (a.l.flatMap Enc.enc) from hall,Option.isSome_some,Option.getD_some];try rfl)|refine Wb ?_|fail
 refine ⟨fun u hu=>by obtain ⟨x,_,hx⟩:=List.mem_flatMap.1 hu;exact Enc.one x u hx,by simp only [maxLen];omega,by omega,?_⟩
 refine znD 1 a.l rfl rfl (Nat.zero_add _) rfl fun s h' e1 R f1 l1 k1=>?_
 refine Wk ?_
 exact ⟨s,rfl,e1,R,f1⟩
theorem zx1 {l:List Int}:List.take 8 (metC l)=metC l:=List.take_of_length_le (by rw [zw9];exact Nat.le_refl _)
theorem zx2 {l:List Int}:List.map SC.v (metV l)=metC l:=rfl
theorem zx3 {l:List Int} {p:List (Nat × PB)}:((metC l).all fun x=>SC.okc p x)=true:=by
 rw [List.all_eq_true];intro x hx
 simp only [metC,metV,List.map_map,List.mem_map] at hx
 obtain ⟨j,_,rfl⟩:=hx
 rfl
theorem zx4 {l:List Int} {r:Nat} {v:Value}:List.map (fun x=>SC.sub r v x) (metC l)=metC l:=rfl
theorem zx5 {l:List Int}:List.map (fun x=>x.val) (metC l)=metV l:=by rw [metC,List.map_map];exact List.map_id _
def zx6 (h:Hp) (b:Nat) (s:Sl (Sl Int)) (l:List (List Int)) (v:Value) (h':Hp):Prop :=
 ∃ s':Sl (Sl Int),s'.l.map (·.l)=s.l.map (·.l) ++ l∧WB 280 35 h' b s'∧(∀ g,s'.a=some ⟨g,0,none⟩→h g=none∨s.a=some ⟨g,0,none⟩)∧(zof h b s).le (zof h' b s')
theorem zx7 (c:DChart) (hC:zva (Con.con c)=true) (to:Int) (b:Nat) :
  ∀ (f:Nat) (l0:List Int) (a:Int) (r:Sl Int) (s:Sl (Sl Int)) (h:Hp),Enc.ok (zof h b s) c→r.Ok (zof h b s)→WB 280 35 h b s→(l0 ++ [a]).Nodup→(∀ x ∈ l0 ++ [a],0≤x∧x < c.points.l.length)→(l0 ++ [a]).length+f=9→r.l.length≤(l0 ++ [a]).length→s.l.length+10 ^ f≤2000000000 →
   Cw jV 275 [c.v,.int .i64 a,.int .i64 to,r.val,.agg (metV l0).toArray,.pointer (some ⟨b,0,none⟩)] h (fun k=>k=b∨s.a=some ⟨k,0,none⟩) (zx6 h b s (zxV c.segments.l to f (l0 ++ [a]) r.l))
 | 0,l0,a,r,s,h,hc,hr,hW,hnd,hin,hlen,hrl,hol=>by
  have:=zxZ hC hnd (fun x hx=>by rw [zwZ];exact hin x hx)
  omega
 | f+1,l0,a,r,s,h,hc,hr,hW,hnd,hin,hlen,hrl,hol=>by
  have hcd:=hc
  have hrd:=hr
  replace hc:Enc.ok h c:=Enc.mono zog hc
  replace hr:r.Ok h:=hr.mono zog
  have hg10:c.segments.l.length≤10:=by rw [← zvJ];exact zxY hC
  have h8:=zxZ hC hnd (fun x hx=>by rw [zwZ];exact hin x hx)
  have hp8:c.points.l.length≤8:=by rw [← zwZ];exact (zwX hC).1
  have ha:=hin a (List.mem_append_right _ (List.mem_singleton.2 rfl))
  have wl:=hW.lds
  have hlast:(l0 ++ [a]).getLast?.getD 0=a:=by rw [List.getLast?_concat];rfl
  refine zlh (fun A W=>by simp) Tryz.func275 rfl rfl (by simp)  (fun k hk=>by
   rcases hk with rfl|hk
   ·rw [hW.1];exact fun e=>by cases e
   ·exact hW.2.1.mem hk) fun W0 hWo=>?_
  have own1:∀ g,(g=b∨s.a=some ⟨g,0,none⟩)→h g=none∨W0.own g:=fun g hg=>.inr (hWo g hg)
  repeat' first|refine Wa ?_|(simp only [go_sem,jq,jj,jy,jv,jk,jx,zx2,zx3,true_and];try rfl)|refine Wb ?_|fail
  refine zc9 rfl (fun hx=>?_) (fun hx=>?_)
  ·have hx:a=to:=eq_of_beq hx
   have hF:zxV c.segments.l to (f+1) (l0 ++ [a]) r.l=[r.l]:=by rw [zxV,if_pos (by rw [hlast];exact hx)]
   rw [hF]
   have hp10:0 < 10 ^ (f+1):=Nat.pow_pos (by decide)
   refine Wk ?_
   refine znv rfl ?_
   refine U_t [0,1,4,2,3] rfl ?_
   try simp only [go_sem,jq,jj,jy,jv,jk,jx,wl,true_or,true_and,and_true,implies_true]
   refine U_1 5 0 [3,2] rfl rfl ?_
   try simp only [go_sem,jq,jj,jy,jv,jk,jx,wl,true_or,true_and,and_true,implies_true]
   refine zkj (zx0 r _ hr (by omega)) rfl ?_
   rintro v h1 le1 ⟨q,rfl,eq1,Rq,fq⟩
   obtain ⟨W1,lb1⟩:=hW.grow le1
   have wl1:=W1.lds
   have q1:q.Ok (zof h1 b s):=(hW.beside le1 Rq fq).ok (by decide) fun x hx=>hr.2.2.2.1 x (by rw [← eq1];exact hx)
   try simp only [go_sem,jq,jj,jy,jv,jk,jx,wl1,true_or,true_and,and_true,implies_true]
   refine U_1 6 0 [3,2] rfl rfl ?_
   try simp only [go_sem,jq,jj,jy,jv,jk,jx,wl1,true_or,true_and,and_true,implies_true]
   refine U_1 7 3 [] rfl rfl ?_
   try simp only [go_sem,jq,jj,jy,jv,jk,jx,wl1,true_or,true_and,and_true,implies_true]
   refine znE (s:=s) rfl W1.2.1 (fun g hg=>own1 g (.inr hg)) ?_
   try simp only [go_sem,jq,jj,jy,jv,jk,jx]
   refine ⟨rfl,by simp only [maxLen];omega,by omega,fun ad cap h2 P=>?_⟩
   have P':Pub (znC h1 s) 35 (Enc.size (Sl Int)) (s.l ++ [q]).length ((s.l ++ [q]).flatMap Enc.enc) ad cap h2:=by
    rw [List.length_append,List.flatMap_append];exact P
   obtain ⟨b2,W2,lb2,fr2⟩:=W1.push q1 P'
   try simp only [go_sem,jq,jj,jy,jv,jk,jx,true_or,true_and]
   refine U_t [8] rfl ?_
   try simp only [go_sem,jq,jj,jy,jv,jk,jx,wl1,true_or,true_and,and_true,implies_true]
   refine U_1 9 1 [] rfl rfl ?_
   try simp only [go_sem,jq,jj,jy,jv,jk,jx,wl1,true_or,true_and,and_true,implies_true]
   refine zlC (by simp only [go_sem]) (by simp only [go_sem]) rfl rfl b2 (own1 b (.inl rfl)) (by simp) ?_
   try simp only [go_sem,jq,jj,jy,jv,jk,jx]
   refine U_d ?_
   refine Wk ?_
   rw [show (Sl.mk ad cap (s.l ++ [q])).val=.slice ad (s.l.length+1) cap from by simp only [Sl.val,List.length_append,List.length_singleton]] at W2 lb2
   rw [zoi]
   refine ⟨_,?_,W2,fun g hg=>?_,Hp.le_trans lb1 lb2⟩
   ·rw [List.map_append];simp only [List.map_cons,List.map_nil,eq1]
   ·rcases fr2 g hg with e|e
    ·exact .inl (zmx le1 e)
    ·exact .inr e
  have hx:¬ a=to:=ne_of_beq_false hx
  have hF:zxV c.segments.l to (f+1) (l0 ++ [a]) r.l=(List.range c.segments.l.length).flatMap (wkAt (zxV c.segments.l to f) c.segments.l (l0 ++ [a]) r.l):=by rw [zxV,if_neg (by rw [hlast];exact hx)]
  rw [hF]
  have ha0:=ha.1
  have ha8:a < ((8:Nat):Int):=by omega
  have ha7:a.toNat≤7:=by omega
  have ha9:a.toNat < 8:=by omega
  have hst:=zxa (l:=l0) (x:=a) ⟨ha0,by omega⟩
  refine zc5 ?_
  refine Evs ?_
  repeat' first|refine Wa ?_|(simp only [go_sem,jq,jj,jy,jv,jk,jx,ha0,ha8,ha7,ha9,hst,zw9,zx3,Nat.zero_add,Nat.mul_one,implies_true,true_and];try rfl)|refine Wb ?_|fail
  refine zoe (ι:=Nat × Hp × Sl (Sl Int)) (fun i=>⟨[(1,true,.c (.v (.int .i64 a))),(2,true,.c (.v (.int .i64 to))),(3,true,.c (.v r.val)),(5,true,.c (.v (.pointer (some ⟨b,0,none⟩)))),(6,true,.c (.p 0 0)),(10,true,.c (.p 1 0)),(30,true,.c (.v c.segments.val)),(31,true,.c (.v (.int .i64 c.segments.l.length))),(32,true,.c (.v (.int .i64 i.1)))],[(0,.box 57 [.v c.points.val,.v c.segments.val]),(1,.box 323 (metC (l0 ++ [a])))],i.2.1,2⟩)
   (fun i=>i.1≤c.segments.l.length∧WB 280 35 i.2.1 b i.2.2∧(∀ g,i.2.2.a=some ⟨g,0,none⟩→h g=none∨s.a=some ⟨g,0,none⟩)∧(zof h b s).le (zof i.2.1 b i.2.2)∧i.2.2.l.map (·.l)=s.l.map (·.l) ++ (List.range i.1).flatMap (wkAt (zxV c.segments.l to f) c.segments.l (l0 ++ [a]) r.l)) (fun i=>c.segments.l.length - i.1) (0,h,s) ⟨Nat.zero_le _,hW,fun g hg=>.inr hg,Hp.le_refl _,by simp⟩ [0,1] ?_ ?_
  ·refine Evs ?_
   exact Gk
  rintro ⟨i,hk,o⟩ ⟨hi,hWk,hfr,hle,hl⟩
  simp only at hi hWk hfr hle hl
  have hsub:(zof h b s).le hk:=Hp.le_trans hle zog
  have hck:Enc.ok hk c:=Enc.mono hsub hcd
  have hrk:=hrd.mono hsub
  have wk:=hWk.lds
  have own2:∀ g,hk g=none→h g=none∨W0.own g:=fun g hg=>by
   by_cases e1:g=b
   ·exact .inr (hWo g (.inl e1))
   by_cases e2:s.a=some ⟨g,0,none⟩
   ·exact .inr (hWo g (.inr e2))
   left
   cases hh:h g with
   | none=>rfl
   | some ob =>
    have h5:zof h b s g=some ob:=by rw [zoh hW.2.1 e1 e2];exact hh
    rw [hsub g ob h5] at hg;cases hg
  refine Wk ?_
  refine zc9 rfl (fun hd=>?_) (fun hd=>?_)
  ·have hlt:=zjH hd
   have hlti:(i:Int) < c.segments.l.length:=by omega
   obtain ⟨y,hye⟩:∃ y,zwS c.segments.l[i] a=y:=⟨_,rfl⟩
   have hwe:zxU c.segments.l (l0 ++ [a]) i=y:=by rw [zxU,gget hlt,hlast,hye]
   have hyn:y < c.points.l.length:=by
    have:=(zwY hC (i:=i) (by rw [zvJ];exact hlt) a).1
    rw [zvJ,zwZ,gget hlt,hye] at this
    exact this
   have hat:wkAt (zxV c.segments.l to f) c.segments.l (l0 ++ [a]) r.l i=if 0≤y∧y ∉ l0 ++ [a] then zxV c.segments.l to f (l0 ++ [a] ++ [y]) (r.l ++ [(i:Int)]) else []:=by rw [wkAt,hwe]
   repeat' first|refine Wa ?_|refine zhF (fun _=>zw0 c.segments.l[i] a _) ?_|(simp only [go_sem,jq,jj,jy,jv,jk,jx,zkU hck.2 hlt,hck.2.some hlt,zlS hck.2 hlt,hlt,hlti,jW,jY,implies_true,true_and,and_true,and_self];try rfl)|refine Wb ?_|fail
   rw [hye]
   by_cases hy:0≤y
   case neg =>
    rw [if_neg (fun H=>hy H.1)] at hat
    repeat' first|refine Wa ?_|(simp only [go_sem,jq,jj,jy,jv,jk,jx,eq_false hy,reduceCtorEq,decide_true,decide_false,Bool.not_true,Bool.not_false,Bool.true_or,Bool.false_or,Bool.false_and,Bool.true_and,Bool.false_eq_true,false_implies,implies_true,true_and];try rfl)|refine Wb ?_|fail
    refine zc9 rfl (fun hz=>?_) (fun hz=>?_)
    ·cases hz
    refine Wk ?_
    refine ⟨(i+1,hk,o),[0,1],⟨hlt,hWk,hfr,hle,by rw [hl,zn2,hat,List.append_nil]⟩,by simp only;omega,?_⟩
    refine Evs ?_
    exact Gi (zjA hlt (by omega))
   have hy8:y < ((8:Nat):Int):=by omega
   have hy7:y.toNat≤7:=by omega
   have hy9:y.toNat < 8:=by omega
   have hgt:=zxb (l:=l0 ++ [a]) (x:=y) ⟨hy,by omega⟩
   repeat' first|refine Wa ?_|(simp only [go_sem,jq,jj,jy,jv,jk,jx,eq_true hy,reduceCtorEq,hy8,hy7,hy9,hgt,zw9,Nat.zero_add,Nat.mul_one,decide_true,decide_false,Bool.not_true,Bool.not_false,Bool.true_or,Bool.false_or,Bool.true_and,Bool.false_eq_true,false_implies,implies_true,true_and];try rfl)|refine Wb ?_|fail
   refine zc9 rfl (fun hz=>?_) (fun hz=>?_)
   case refine_2 =>
    have hz:y ∈ l0 ++ [a]:=of_decide_eq_true (by rw [Bool.not_eq_false'] at hz;exact hz)
    rw [if_neg (fun H=>H.2 hz)] at hat
    refine Wk ?_
    refine ⟨(i+1,hk,o),[0,1],⟨hlt,hWk,hfr,hle,by rw [hl,zn2,hat,List.append_nil]⟩,by simp only;omega,?_⟩
    refine Evs ?_
    exact Gi (zjA hlt (by omega))
   have hz:y ∉ l0 ++ [a]:=of_decide_eq_false (by rw [Bool.not_eq_true'] at hz;exact hz)
   rw [if_pos ⟨hy,hz⟩] at hat
   refine Wk ?_
   refine znv rfl ?_
   refine U_t [0,1,2,3,5,8,9] rfl ?_
   simp only [go_sem,jq,jj,jy,jv,jk,jx,zx4,zx1,zw9,Nat.le_refl,implies_true,true_and]
   refine U_m 4 [6] ⟨?_,?_,trivial⟩
   ·refine U_b 4 0 [8,0] rfl rfl ?_
    refine Evs ?_
    refine zkj (zx0 r _ hrk (by omega)) rfl ?_
    rintro v h1 le1 ⟨q,rfl,eq1,Rq,fq⟩
    simp only [go_sem,jq,jj,jy,jv,jk,jx,zx4,zx1,zw9,Nat.le_refl,implies_true,true_and]
    refine U_1 6 0 [8,0] rfl rfl ?_
    simp only [go_sem,jq,jj,jy,jv,jk,jx,zx4,zx1,zw9,Nat.le_refl,implies_true,true_and]
    refine U_1 7 3 [8,0] rfl rfl ?_
    try simp only [go_sem,jq,jj,jy,jv,jk,jx]
    refine znE (s:=q) rfl Rq (fun g hg=>own2 g (fq g hg)) ?_
    try simp only [go_sem,jq,jj,jy,jv,jk,jx]
    refine ⟨rfl,by rw [eq1];simp only [maxLen];omega,by rw [eq1];omega,fun ad cap h2 P=>?_⟩
    have P':Pub (znC h1 q) 3 (Enc.size Int) (q.l ++ [(i:Int)]).length ((q.l ++ [(i:Int)]).flatMap Enc.enc) ad cap h2:=by
     rw [List.length_append,List.flatMap_append];exact P
    obtain ⟨le2,fr2⟩:=pubF (l:=q.l ++ [(i:Int)]) Rq le1 fq P'
    obtain ⟨R2,-,-⟩:=P'.row
    obtain ⟨W2,lb2⟩:=hWk.grow le2
    have k2:(Sl.mk ad cap (q.l ++ [(i:Int)])).Ok (zof h2 b o):=(hWk.beside le2 R2 fr2).ok (by decide) fun x hx=>by
     rcases List.mem_append.1 hx with hx|hx
     ·exact hrk.2.2.2.1 x (by rw [← eq1];exact hx)
     ·rw [List.mem_singleton.1 hx];show I64 _;unfold I64;omega
    rw [show Value.slice ad (q.l.length+1) cap=(Sl.mk ad cap (q.l ++ [(i:Int)])).val from by simp only [Sl.val,List.length_append,List.length_singleton]]
    try simp only [go_sem,jq,jj,jy,jv,jk,jx,zx4,zx1,zw9,Nat.le_refl,implies_true,true_and]
    refine U_1 10 1 [] rfl rfl ?_
    try simp only [go_sem,jq,jj,jy,jv,jk,jx,zx5]
    have hol2:o.l.length+10 ^ f≤2000000000:=by
     have e1:=congrArg List.length hl
     rw [List.length_map,List.length_append,List.length_map] at e1
     have e2:=zxX (to:=to) hg10 (f:=f) (k:=i) (pts:=l0 ++ [a]) (r:=r.l) (by omega)
     have e3:(i+1) * 10 ^ f≤10 * 10 ^ f:=Nat.mul_le_mul_right _ (by omega)
     rw [Nat.add_mul,Nat.one_mul] at e3
     rw [Nat.pow_succ] at hol
     omega
    refine ⟨rfl,?_⟩
    refine zli (zx7 c hC to b f (l0 ++ [a]) y (Sl.mk ad cap (q.l ++ [(i:Int)])) o h2 (Enc.mono (Hp.le_trans hle lb2) hcd) k2 W2 (by rw [List.nodup_append];exact ⟨hnd,by simp,fun u hu v hv e=>by rw [List.mem_singleton.1 hv] at e;rw [e] at hu;exact hz hu⟩) (fun x hx=>by
     rcases List.mem_append.1 hx with hx|hx
     ·exact hin x hx
     ·rw [List.mem_singleton.1 hx];exact ⟨hy,hyn⟩) (by rw [List.length_append,List.length_singleton];omega) (by rw [List.length_append,List.length_append,List.length_singleton,List.length_singleton,eq1];omega) hol2) rfl (fun k hk=>?_) ?_
    ·rcases hk with rfl|hk
     ·exact ⟨(by rw [W2.1];exact fun e=>(by cases e)),.inr (hWo _ (.inl rfl))⟩
     ·exact ⟨W2.2.1.mem hk,(hfr k hk).imp id (fun e=>hWo k (.inr e))⟩
    rintro v h4 kp ⟨s4,hs4,W4,f4,l4⟩
    try simp only [go_sem,jq,jj,jy,jv,jk,jx]
    refine U_d ?_
    refine Wk ?_
    refine ⟨(i+1,h4,s4),[0,1],⟨hlt,W4,fun g hg=>?_,Hp.le_trans hle (Hp.le_trans lb2 l4),?_⟩,by simp only;omega,?_⟩
    ·rcases f4 g hg with e|e
     ·have e0:hk g=none:=by
       cases hh:hk g with
       | none=>rfl
       | some ob=>rw [le2 g ob hh] at e;cases e
      by_cases e1:g=b
      ·rw [e1,hWk.1] at e0;cases e0
      by_cases e2:s.a=some ⟨g,0,none⟩
      ·exact .inr e2
      left
      cases hh:h g with
      | none=>rfl
      | some ob =>
       have h5:zof h b s g=some ob:=by rw [zoh hW.2.1 e1 e2];exact hh
       rw [hsub g ob h5] at e0;cases e0
     ·exact hfr g e
    ·rw [hs4,hl,zn2,hat,eq1,List.append_assoc]
    try simp only [go_sem,jq,jj,jy,jv,jk,jx]
    exact Gi (zjA hlt (by omega))
   ·refine U_b 6 0 [8,0] rfl rfl ?_
    simp only [go_sem,jq,jj,jy,jv,jk,jx,zx4,zx1,zw9,Nat.le_refl,implies_true,true_and]
    refine U_1 4 0 [8,0] rfl rfl ?_
    refine Evs ?_
    refine zkj (zx0 r _ hrk (by omega)) rfl ?_
    rintro v h1 le1 ⟨q,rfl,eq1,Rq,fq⟩
    simp only [go_sem,jq,jj,jy,jv,jk,jx,zx4,zx1,zw9,Nat.le_refl,implies_true,true_and]
    refine U_1 7 3 [8,0] rfl rfl ?_
    try simp only [go_sem,jq,jj,jy,jv,jk,jx]
    refine znE (s:=q) rfl Rq (fun g hg=>own2 g (fq g hg)) ?_
    try simp only [go_sem,jq,jj,jy,jv,jk,jx]
    refine ⟨rfl,by rw [eq1];simp only [maxLen];omega,by rw [eq1];omega,fun ad cap h2 P=>?_⟩
    have P':Pub (znC h1 q) 3 (Enc.size Int) (q.l ++ [(i:Int)]).length ((q.l ++ [(i:Int)]).flatMap Enc.enc) ad cap h2:=by
     rw [List.length_append,List.flatMap_append];exact P
    obtain ⟨le2,fr2⟩:=pubF (l:=q.l ++ [(i:Int)]) Rq le1 fq P'
    obtain ⟨R2,-,-⟩:=P'.row
    obtain ⟨W2,lb2⟩:=hWk.grow le2
    have k2:(Sl.mk ad cap (q.l ++ [(i:Int)])).Ok (zof h2 b o):=(hWk.beside le2 R2 fr2).ok (by decide) fun x hx=>by
     rcases List.mem_append.1 hx with hx|hx
     ·exact hrk.2.2.2.1 x (by rw [← eq1];exact hx)
     ·rw [List.mem_singleton.1 hx];show I64 _;unfold I64;omega
    rw [show Value.slice ad (q.l.length+1) cap=(Sl.mk ad cap (q.l ++ [(i:Int)])).val from by simp only [Sl.val,List.length_append,List.length_singleton]]
    try simp only [go_sem,jq,jj,jy,jv,jk,jx,zx4,zx1,zw9,Nat.le_refl,implies_true,true_and]
    refine U_1 10 1 [] rfl rfl ?_
    try simp only [go_sem,jq,jj,jy,jv,jk,jx,zx5]
    have hol2:o.l.length+10 ^ f≤2000000000:=by
     have e1:=congrArg List.length hl
     rw [List.length_map,List.length_append,List.length_map] at e1
     have e2:=zxX (to:=to) hg10 (f:=f) (k:=i) (pts:=l0 ++ [a]) (r:=r.l) (by omega)
     have e3:(i+1) * 10 ^ f≤10 * 10 ^ f:=Nat.mul_le_mul_right _ (by omega)
     rw [Nat.add_mul,Nat.one_mul] at e3
     rw [Nat.pow_succ] at hol
     omega
    refine ⟨rfl,?_⟩
    refine zli (zx7 c hC to b f (l0 ++ [a]) y (Sl.mk ad cap (q.l ++ [(i:Int)])) o h2 (Enc.mono (Hp.le_trans hle lb2) hcd) k2 W2 (by rw [List.nodup_append];exact ⟨hnd,by simp,fun u hu v hv e=>by rw [List.mem_singleton.1 hv] at e;rw [e] at hu;exact hz hu⟩) (fun x hx=>by
     rcases List.mem_append.1 hx with hx|hx
     ·exact hin x hx
     ·rw [List.mem_singleton.1 hx];exact ⟨hy,hyn⟩) (by rw [List.length_append,List.length_singleton];omega) (by rw [List.length_append,List.length_append,List.length_singleton,List.length_singleton,eq1];omega) hol2) rfl (fun k hk=>?_) ?_
    ·rcases hk with rfl|hk
     ·exact ⟨(by rw [W2.1];exact fun e=>(by cases e)),.inr (hWo _ (.inl rfl))⟩
     ·exact ⟨W2.2.1.mem hk,(hfr k hk).imp id (fun e=>hWo k (.inr e))⟩
    rintro v h4 kp ⟨s4,hs4,W4,f4,l4⟩
    try simp only [go_sem,jq,jj,jy,jv,jk,jx]
    refine U_d ?_
    refine Wk ?_
    refine ⟨(i+1,h4,s4),[0,1],⟨hlt,W4,fun g hg=>?_,Hp.le_trans hle (Hp.le_trans lb2 l4),?_⟩,by simp only;omega,?_⟩
    ·rcases f4 g hg with e|e
     ·have e0:hk g=none:=by
       cases hh:hk g with
       | none=>rfl
       | some ob=>rw [le2 g ob hh] at e;cases e
      by_cases e1:g=b
      ·rw [e1,hWk.1] at e0;cases e0
      by_cases e2:s.a=some ⟨g,0,none⟩
      ·exact .inr e2
      left
      cases hh:h g with
      | none=>rfl
      | some ob =>
       have h5:zof h b s g=some ob:=by rw [zoh hW.2.1 e1 e2];exact hh
       rw [hsub g ob h5] at e0;cases e0
     ·exact hfr g e
    ·rw [hs4,hl,zn2,hat,eq1,List.append_assoc]
    try simp only [go_sem,jq,jj,jy,jv,jk,jx]
    exact Gi (zjA hlt (by omega))
  ·have hge:=zjI hd
   obtain rfl:i=c.segments.l.length:=by omega
   refine Wk ?_
   exact ⟨o,hl,hWk,hfr,hle⟩
end Go.Proofs.YtbkaaakphpbmiaaGreat
