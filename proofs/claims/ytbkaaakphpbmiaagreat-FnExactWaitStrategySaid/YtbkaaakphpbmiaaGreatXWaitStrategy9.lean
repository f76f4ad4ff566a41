/- What functions of the given program compute, as contracts. -/
import Derived.Test.YtbkaaakphpbmiaaGreatSWaitStrategyx3
import Derived.Test.YtbkaaakphpbmiaaGreatXWaitStrategy8
set_option linter.unusedVariables false
set_option linter.unusedSimpArgs false
set_option maxRecDepth 4000
open Nat renaming reduceAdd → jq, reduceMul → jj, reduceBEq → jy, reduceLeDiff → jv, reduceLT → jk, reduceEqDiff → jx, zero_add → jb, zero_mul → jA, zero_le → jC, sub_zero → qQ, le_refl → qV, mul_one → wy, lt_or_ge → wv, le_trans → wK, mul_le_mul_right → wP, eq_zero_or_pos → we, add_mul → yP, one_mul → JQ
open Bool renaming or_eq_false_iff → jp, or_eq_true → jQ, and_eq_true → jJ, not_eq_true' → jd, not_eq_false' → jf, true_and → qp, false_eq_true → qW, and_false → qP, false_ne_true → qa, false_and → qc, and_eq_false_iff → qA, not_false → wq, not_true → wj, and_true → wJ, false_or → wa, or_false → wC, true_or → yw, or_true → uw
open Int renaming toNat_natCast → jW, natCast_nonneg → jY, toNat_zero → je, le_refl → qF
open Go.SL.Con renaming con → jK
open Option renaming isSome_some → jX, getD_some → jc, bind_some → yf
open List renaming length_append → jP, getD_eq_getElem?_getD → ja, length_singleton → jg, flatMap_append → jF, nil_append → jG, length_map → jH, take_succ_eq_append_getElem → qw, take_of_length_le → qy, getElem_mem → qd, mem_cons_of_mem → qg, map_append → qB, mem_cons_self → qC, take_length → qG, getElem_map → qH, map_cons → wx, all_eq_true → wY, range → wg, map_map → yj, append_assoc → yx, foldl_append → yp, append_nil → yJ, mem_append_right → yb, range_succ → yg, map_nil → yD, nodup_append → yE, map_id → ux, length_range → uQ, getElem_range → ua, length → ud, getElem?_eq_none → uE, take → Jq
open Go.SL.Hp renaming le_trans → jB, ins_same → qD, le_refl → wW, ins_ne → JJ
open Go.SL.Enc renaming ok → jD, mono → jL, enc → qx, size → wA, one → uD
open Go.Proofs.Tryz renaming prog → jV
namespace Go.Proofs.YtbkaaakphpbmiaaGreat
open Go Go.SL
set_option maxHeartbeats 1000000
def zFZ (g:List DSegment) (pts:List Int) (i:Nat):Int:=zEf (g.getD i dG) (pts.getLast?.getD 0)
def wkAt (F:List Int→List Int→List (List Int)) (g:List DSegment) (pts r:List Int) (i:Nat):List (List Int) :=
 if 0≤zFZ g pts i∧zFZ g pts i ∉ pts then F (pts ++ [zFZ g pts i]) (r ++ [(i:Int)]) else []
def zF0 (g:List DSegment) (to:Int):Nat→List Int→List Int→List (List Int)
 | 0,_,_=>[]
 | f+1,pts,r=>if pts.getLast?.getD 0=to then [r] else (wg g.length).flatMap (wkAt (zF0 g to f) g pts r)
theorem zF1 {g:List DSegment} {to:Int} (a:g.length≤10):∀ {f:Nat} {pts r:List Int},(zF0 g to f pts r).length≤10 ^ f
 | 0,_,_=>jC _
 | f+1,pts,r=>by
  unfold zF0
  have b:0 < 10 ^ f:=Nat.pow_pos (by decide)
  rw [Nat.pow_succ]
  split
  ·show 1≤_;omega
  ·refine wK (zEE (B:=10 ^ f) fun i _=>?_) ?_
   ·unfold wkAt
    split
    ·exact zF1 a
    ·exact jC _
   ·rw [uQ]
    exact wK (wP _ a) (by omega)
theorem zF2 {g:List DSegment} {to:Int} (a:g.length≤10) {f k:Nat} {pts r:List Int} (b:k≤10):((wg k).flatMap (wkAt (zF0 g to f) g pts r)).length≤k * 10 ^ f:=by
 have:=zEE (B:=10 ^ f) (l:=wg k) (F:=wkAt (zF0 g to f) g pts r) fun i _=>by
  unfold wkAt
  split
  ·exact zF1 a
  ·exact jC _
 rwa [uQ] at this
theorem zF3 {c:PChart} (h:zBp c=true):c.segments.length≤10:=by
 simp only [zBp,jJ,JD] at h
 exact h.1.1.2
theorem zF4 {c:PChart} (h:zBp c=true) {pts:List Int} (a:pts.Nodup) (b:∀ x ∈ pts,0≤x∧x < c.points.length):pts.length≤8:=wK (zEI a b) (zEk h).1
def zF5 (h:Hp) (out:Sl (Sl Int)) (l:List (List Int)) (v:Value) (h':Hp):Prop :=
 ∃ s:Sl (Sl Int),v=s.val∧s.l.map (·.l)=out.l.map (·.l) ++ l∧WS 35 h' s∧(∀ g,s.a=some ⟨g,0,none⟩→h g=none∨out.a=some ⟨g,0,none⟩)∧(zD4 h out).le (zD4 h' s)
theorem zF6 {l:List Int} {u:Value} (a:u ∈ l.flatMap qx):u.oneCell'=true:=by
 obtain ⟨x,_,a⟩:=List.mem_flatMap.1 a
 exact uD x u a
set_option maxRecDepth 20000 in
theorem zF7 (c:DChart) (hC:zBp (jK c)=true) (to:Int) :
  ∀ (f:Nat) (pts r:Sl Int) (w:Sl (Sl Int)) (h:Hp),jD (zD4 h w) c→pts.Ok (zD4 h w)→r.Ok (zD4 h w)→WS 35 h w→pts.l ≠ []→pts.l.Nodup→(∀ x ∈ pts.l,0≤x∧x < c.points.l.length)→pts.l.length+f=9→r.l.length≤pts.l.length→w.l.length+10 ^ f≤2000000000 →
   Cw jV 270 [c.v,pts.val,r.val,.int .i64 to,w.val] h (fun k=>w.a=some ⟨k,0,none⟩) (zF5 h w (zF0 c.segments.l to f pts.l r.l))
 | 0,pts,r,w,h,hc,hp,hr,hW,au,Y,Z,br,b8,av=>by
  have:=zF4 hC Y (fun x z=>by rw [zEm];exact Z x z)
  omega
 | f+1,pts,r,w,h,hc,hp,hr,hW,au,Y,Z,br,b8,av=>by
  have aw:=hc
  have b9:=hp
  have ax:=hr
  replace hc:jD h c:=jL zEA hc
  replace hp:pts.Ok h:=hp.mono zEA
  replace hr:r.Ok h:=hr.mono zEA
  have bt:c.segments.l.length≤10:=by rw [← zCd];exact zF3 hC
  have h8:=zF4 hC Y (fun x z=>by rw [zEm];exact Z x z)
  have dc:c.points.l.length≤8:=by rw [← zEm];exact (zEk hC).1
  obtain ⟨n,hn⟩:∃ n,pts.l.length=n+1:=⟨pts.l.length - 1,by have:=List.length_pos_iff.2 au;omega⟩
  have aa:n < pts.l.length:=by omega
  have bu:(n:Int) < pts.l.length:=by omega
  have ca:IntKind.i64.wrap ((pts.l.length:Int) - 1)=(n:Int):=by rw [zjz (by omega)];omega
  have J:pts.l.getLast?.getD 0=pts.l[n]:=by rw [zEP hn,iget aa]
  obtain ⟨t,az⟩:∃ t,pts.l[n]=t:=⟨_,rfl⟩
  rw [az] at J
  refine zlK (fun A W=>by simp) Tryz.func270 rfl rfl (by simp)  (fun k q=>hW.1.mem q) fun W0 a7=>?_
  repeat' first|refine Wa ?_|(simp only [go_sem,jq,jj,jy,jv,jk,jx,ca,zkR hp aa,hp.some aa,aa,bu,az,jW,jY,Jg,JA,JB,JC];try rfl)|refine Wb ?_|fail
  refine zc9 rfl (fun z=>?_) (fun z=>?_)
  ·have z:t=to:=eq_of_beq z
   have hF:zF0 c.segments.l to (f+1) pts.l r.l=[r.l]:=by rw [zF0,if_pos (by rw [J];exact z)]
   have d:h.ldL r.val 1=some (r.l.flatMap qx):=hr.all (by decide)
   first|refine zzr [0,0,0,2,0,3,0] rfl ?_|refine zzq [0,0,0,2,0,3,0] rfl ?_|(refine zc3 ?_;first|refine zzr [0,0,0,2,0,3,0] rfl ?_|refine zzq [0,0,0,2,0,3,0] rfl ?_)
   simp only [go_sem,jq,jj,jy,jv,jk,jx,d,jX,jc,JA,jb,jG]
   refine ⟨fun u D=>zF6 D,by simp only [maxLen];omega,by omega,fun ad cap h1 P1=>?_⟩
   have ae:Pub h 3 (wA Int) r.l.length (r.l.flatMap qx) ad cap h1:=P1
   have cb:=ae.beside hW.1
   obtain ⟨W1,cd⟩:=hW.grow ae.le
   have q1:(Sl.mk ad cap r.l).Ok (zD4 h1 w):=Pub.sl (by decide) cb (fun x z=>ax.2.2.2.1 x z)
   refine zD6 (s:=w) rfl W1.1 (fun g K=>.inr (a7 g K)) ?_
   refine Evs ?_
   have db:0 < 10 ^ (f+1):=Nat.pow_pos (by decide)
   refine ⟨rfl,by simp only [maxLen];omega,by omega,fun a8 ag h2 P2=>?_⟩
   have ce:Pub (zD4 h1 w) 35 (wA (Sl Int)) (w.l ++ [Sl.mk ad cap r.l]).length ((w.l ++ [Sl.mk ad cap r.l]).flatMap qx) a8 ag h2:=by
    rw [jP,jF];exact P2
   obtain ⟨W2,cf,cg,de⟩:=W1.push q1 ce
   rw [hF]
   refine Wk ?_
   refine ⟨Sl.mk a8 ag (w.l ++ [Sl.mk ad cap r.l]),by simp only [Sl.val,jP,jg],by rw [qB];rfl,W2,fun g K=>?_,by rw [cf];exact cd⟩
   rcases cg g K with e|e
   ·exact .inl (znR ae.le e)
   ·exact .inr e
  have z:¬ t=to:=ne_of_beq_false z
  have hF:zF0 c.segments.l to (f+1) pts.l r.l=(wg c.segments.l.length).flatMap (wkAt (zF0 c.segments.l to f) c.segments.l pts.l r.l):=by rw [zF0,if_neg (by rw [J];exact z)]
  rw [hF]
  refine Wk ?_
  refine zFU (ι:=Nat × Hp × Sl (Sl Int)) (fun i=>⟨[(1,true,.c (.v pts.val)),(2,true,.c (.v r.val)),(3,true,.c (.v (.int .i64 to))),(4,true,.c (.v i.2.2.val)),(5,true,.c (.p 0 0)),(10,true,.c (.v (.slice none 0 0))),(11,true,.c (.v (.int .i64 t))),(31,true,.c (.v c.segments.val)),(32,true,.c (.v (.int .i64 c.segments.l.length))),(33,true,.c (.v (.int .i64 i.1)))],[(0,.box 57 [.v c.points.val,.v c.segments.val])],i.2.1,1⟩)
   (fun i=>i.1≤c.segments.l.length∧WS 35 i.2.1 i.2.2∧(∀ g,i.2.2.a=some ⟨g,0,none⟩→h g=none∨w.a=some ⟨g,0,none⟩)∧(zD4 h w).le (zD4 i.2.1 i.2.2)∧i.2.2.l.map (·.l)=w.l.map (·.l) ++ (wg i.1).flatMap (wkAt (zF0 c.segments.l to f) c.segments.l pts.l r.l)) (fun i=>c.segments.l.length - i.1) (0,h,w) ⟨jC _,hW,fun g K=>.inr K,wW _,by simp⟩ [0] ?_ ?_
  ·refine Evs ?_
   exact Gk
  rintro ⟨i,q,o⟩ ⟨hi,O,Q,M,hl⟩
  simp only at hi O Q M hl
  have R:(zD4 h w).le q:=jB M zEA
  have ah:jD q c:=jL R aw
  have ai:=b9.mono R
  have bd:=ax.mono R
  refine Wk ?_
  refine zc9 rfl (fun hd=>?_) (fun hd=>?_)
  ·have F:=zjH hd
   have bv:(i:Int) < c.segments.l.length:=by omega
   obtain ⟨y,aj⟩:∃ y,zEf c.segments.l[i] t=y:=⟨_,rfl⟩
   have ci:zFZ c.segments.l pts.l i=y:=by rw [zFZ,gget F,J,aj]
   have cj:y < c.points.l.length:=by
    have:=(zEl hC (i:=i) (by rw [zCd];exact F) t).1
    rw [zCd,zEm,gget F,aj] at this
    exact this
   have ab:wkAt (zF0 c.segments.l to f) c.segments.l pts.l r.l i=if 0≤y∧y ∉ pts.l then zF0 c.segments.l to f (pts.l ++ [y]) (r.l ++ [(i:Int)]) else []:=by rw [wkAt,ci]
   repeat' first|refine Wa ?_|refine zhF (fun _=>zEo c.segments.l[i] t _) ?_|(simp only [go_sem,jq,jj,jy,jv,jk,jx,zlh ah.2 F,ah.2.some F,zm7 ah.2 F,F,bv,jW,jY,Jg,JA,JB,JC];try rfl)|refine Wb ?_|fail
   rw [aj]
   repeat' first|refine Wa ?_|refine zhF (fun _=>zEU pts y _ ai) ?_|(simp only [go_sem,jq,jj,jy,jv,jk,jx];try rfl)|refine Wb ?_|fail
   refine zFT (ι:=Hp × Sl (Sl Int)) (fun j=>⟨[(1,true,.c (.v pts.val)),(2,true,.c (.v r.val)),(3,true,.c (.v (.int .i64 to))),(4,true,.c (.v j.2.val)),(5,true,.c (.p 0 0)),(10,true,.c (.v (.slice none 0 0))),(11,true,.c (.v (.int .i64 t))),(31,true,.c (.v c.segments.val)),(32,true,.c (.v (.int .i64 c.segments.l.length))),(33,true,.c (.v (.int .i64 i)))],[(0,.box 57 [.v c.points.val,.v c.segments.val])],j.1,1⟩)
    (fun j=>WS 35 j.1 j.2∧(∀ g,j.2.a=some ⟨g,0,none⟩→h g=none∨w.a=some ⟨g,0,none⟩)∧(zD4 h w).le (zD4 j.1 j.2)∧j.2.l.map (·.l)=w.l.map (·.l) ++ (wg (i+1)).flatMap (wkAt (zF0 c.segments.l to f) c.segments.l pts.l r.l)) (fun _=>rfl) ?_ ?_
   ·refine zc9 rfl (fun X=>?_) (fun X=>?_)
    ·have bf:0≤y:=JE (Bool.and_eq_true_iff.1 X).1
     have bg:y ∉ pts.l:=JF (by simpa using (Bool.and_eq_true_iff.1 X).2)
     rw [if_pos ⟨bf,bg⟩] at ab
     have m:q.ldL pts.val 1=some (pts.l.flatMap qx):=ai.all (by decide)
     have d:q.ldL r.val 1=some (r.l.flatMap qx):=bd.all (by decide)
     have bw:I64 y:=by unfold I64;omega
     have bz:I64 (i:Int):=by unfold I64;omega
     refine zz5 rfl ?_
     refine U_t [0,2,4,8,10,13,14] rfl ?_
     simp only [go_sem,jq,jj,jy,jv,jk,jx,m,d,jX,jc,JA,jb,jG]
     refine zFM 2 #[true,true,true,true,true,true,true,true,true,true,true,true,true,true,true,false,false] ⟨[(1,true,.c (.v pts.val)),(2,true,.c (.v r.val)),(3,true,.c (.v (.int .i64 to))),(4,true,.c (.v o.val)),(5,true,.c (.p 0 0)),(10,true,.c (.v (.slice none 0 0))),(11,true,.c (.v (.int .i64 t))),(31,true,.c (.v c.segments.val)),(32,true,.c (.v (.int .i64 c.segments.l.length))),(33,true,.c (.v (.int .i64 i))),(49,true,.g [.v c.points.val,.v c.segments.val]),(51,true,.c (.v pts.val)),(53,true,.c (.v (.int .i64 y))),(57,true,.c (.v r.val)),(59,true,.c (.v (.int .i64 i))),(62,true,.c (.v (.int .i64 to))),(63,true,.c (.v o.val)),(55,true,.c (.s 1)),(61,true,.c (.s 2))],[(0,.box 57 [.v c.points.val,.v c.segments.val]),(1,.row 3 1 (pts.l.length+1) (pts.l.flatMap qx ++ [.int .i64 y])),(2,.row 3 1 (r.l.length+1) (r.l.flatMap qx ++ [.int .i64 i]))],q,3⟩ ?_ fun N0=>?_
     ·refine zFO 1 (pts.l ++ [y]) rfl rfl (by simp) (by rw [jF];rfl) fun q1 g1 N R1 cm co df=>?_
      refine Evs ?_
      refine zFO 2 (r.l ++ [(i:Int)]) rfl rfl (by simp) (by rw [jF];rfl) fun q2 g2 ak R2 cp cq dg=>?_
      refine Evs ?_
      obtain ⟨Wa,la⟩:=O.grow co
      obtain ⟨Wb,lb⟩:=Wa.grow cq
      have al:=jB la lb
      have k1:q1.Ok (zD4 g2 o):=by
       refine Sl.Ok.mono lb (RowAt.ok (by decide) (R1.keep (h':=zD4 g1 o) fun g K=>zEC fun a G e=>?_) fun x z=>?_)
       ·have hb:=O.1.blk a G
        rw [hb,← e] at G
        exact O.1.mem G (cm g K)
       ·rw [N] at z
        rcases List.mem_append.1 z with z|z
        ·exact ai.2.2.2.1 x z
        ·rw [List.mem_singleton.1 z];exact bw
      have k2:q2.Ok (zD4 g2 o):=by
       refine RowAt.ok (by decide) (R2.keep (h':=zD4 g2 o) fun g K=>zEC fun a G e=>?_) fun x z=>?_
       ·have hb:=Wa.1.blk a G
        rw [hb,← e] at G
        exact Wa.1.mem G (cp g K)
       ·rw [ak] at z
        rcases List.mem_append.1 z with z|z
        ·exact bd.2.2.2.1 x z
        ·rw [List.mem_singleton.1 z];exact bz
      have b7:o.l.length+10 ^ f≤2000000000:=by
       have e1:=congrArg ud hl
       rw [jH,jP,jH] at e1
       have e2:=zF2 (to:=to) bt (f:=f) (k:=i) (pts:=pts.l) (r:=r.l) (by omega)
       have e3:(i+1) * 10 ^ f≤10 * 10 ^ f:=wP _ (by omega)
       rw [yP,JQ] at e3
       rw [Nat.pow_succ] at av
       omega
      refine U_1 15 1 [] rfl rfl ?_
      refine Evs ?_
      refine zlL (zF7 c hC to f q1 q2 o g2 (jL (jB M al) aw) k1 k2 Wb (by rw [N];simp) (by rw [N,yE];exact ⟨Y,by simp,fun a G b hb e=>by rw [List.mem_singleton.1 hb] at e;rw [e] at G;exact bg G⟩) (fun x z=>by
       rw [N] at z
       rcases List.mem_append.1 z with z|z
       ·exact Z x z
       ·rw [List.mem_singleton.1 z];exact ⟨bf,cj⟩) (by rw [N,jP,jg];omega) (by rw [N,ak,jP,jP,jg,jg];omega) b7) rfl (fun k q=>⟨Wb.1.mem q,(Q k q).imp id (a7 k)⟩) ?_
      rintro v h4 kp ⟨s,rfl,hs,Ws,fs,cr⟩
      refine Evs ?_
      refine U_t [16] rfl ?_
      refine Evs ?_
      refine U_d ?_
      refine ⟨(h4,s),[0],⟨Ws,fun g K=>?_,jB M (jB al cr),?_⟩,?_⟩
      ·rcases fs g K with e|e
       ·by_cases ho:w.a=some ⟨g,0,none⟩
        ·exact .inr ho
        ·left
         cases hh:h g with
         | none=>rfl
         | some ob =>
          have h5:zD4 h w g=some ob:=by rw [zEC (fun a G e'=>ho (by rw [G,hW.1.blk a G,e']))];exact hh
          have h6:=zEA g ob (al g ob (M g ob h5))
          rw [e] at h6;cases h6
       ·exact Q g e
      ·rw [hs,hl,N,ak];simp [jF,ab]
      refine Evs ?_
      exact Gk
     refine zFM 3 #[true,true,true,true,true,true,true,true,true,true,true,true,false,true,true,false,false] ⟨[(1,true,.c (.v pts.val)),(2,true,.c (.v r.val)),(3,true,.c (.v (.int .i64 to))),(4,true,.c (.v o.val)),(5,true,.c (.p 0 0)),(10,true,.c (.v (.slice none 0 0))),(11,true,.c (.v (.int .i64 t))),(31,true,.c (.v c.segments.val)),(32,true,.c (.v (.int .i64 c.segments.l.length))),(33,true,.c (.v (.int .i64 i))),(49,true,.g [.v c.points.val,.v c.segments.val]),(51,true,.c (.v pts.val)),(53,true,.c (.v (.int .i64 y))),(57,true,.c (.v r.val)),(59,true,.c (.v (.int .i64 i))),(62,true,.c (.v (.int .i64 to))),(63,true,.c (.v o.val)),(55,true,.c (.s 1)),(58,true,.c (.s 2)),(60,true,.c (.s 3))],[(0,.box 57 [.v c.points.val,.v c.segments.val]),(1,.row 3 1 (pts.l.length+1) (pts.l.flatMap qx ++ [.int .i64 y])),(2,.row 3 1 r.l.length (r.l.flatMap qx)),(3,.row 3 1 1 [.int .i64 i])],q,4⟩ ?_ fun N1=>?_
     ·refine U_m 12 [] ⟨?_,trivial⟩
      ·refine U_b 12 0 [0] rfl rfl ?_
       simp only [go_sem,jq,jj,jy,jv,jk,jx,m,d,jX,jc,JA,jb,jG]
       refine ⟨by simp only [maxLen];omega,by omega,?_⟩
       refine zFQ [0,1,4] N0 rfl rfl ?_
       refine Evs ?_
       exact Gk
     refine zFM 4 #[true,true,true,true,true,true,true,true,true,true,true,false,false,true,true,false,false] ⟨[(1,true,.c (.v pts.val)),(2,true,.c (.v r.val)),(3,true,.c (.v (.int .i64 to))),(4,true,.c (.v o.val)),(5,true,.c (.p 0 0)),(10,true,.c (.v (.slice none 0 0))),(11,true,.c (.v (.int .i64 t))),(31,true,.c (.v c.segments.val)),(32,true,.c (.v (.int .i64 c.segments.l.length))),(33,true,.c (.v (.int .i64 i))),(49,true,.g [.v c.points.val,.v c.segments.val]),(51,true,.c (.v pts.val)),(53,true,.c (.v (.int .i64 y))),(57,true,.c (.v r.val)),(59,true,.c (.v (.int .i64 i))),(62,true,.c (.v (.int .i64 to))),(63,true,.c (.v o.val)),(55,true,.c (.s 1)),(58,true,.c (.s 2))],[(0,.box 57 [.v c.points.val,.v c.segments.val]),(1,.row 3 1 (pts.l.length+1) (pts.l.flatMap qx ++ [.int .i64 y])),(2,.row 3 1 r.l.length (r.l.flatMap qx))],q,3⟩ ?_ fun N2=>?_
     ·refine U_m 11 [] ⟨?_,trivial⟩
      ·refine U_b 11 0 [0] rfl rfl ?_
       simp only [go_sem,jq,jj,jy,jv,jk,jx,m,d,jX,jc,JA,jb,jG]
       refine zFQ [0,1,2,3] N1 rfl rfl ?_
       refine Evs ?_
       exact Gk
     refine zFM 4 #[true,true,true,true,true,true,true,true,true,false,true,true,false,true,true,false,false] ⟨[(1,true,.c (.v pts.val)),(2,true,.c (.v r.val)),(3,true,.c (.v (.int .i64 to))),(4,true,.c (.v o.val)),(5,true,.c (.p 0 0)),(10,true,.c (.v (.slice none 0 0))),(11,true,.c (.v (.int .i64 t))),(31,true,.c (.v c.segments.val)),(32,true,.c (.v (.int .i64 c.segments.l.length))),(33,true,.c (.v (.int .i64 i))),(49,true,.g [.v c.points.val,.v c.segments.val]),(51,true,.c (.v pts.val)),(53,true,.c (.v (.int .i64 y))),(57,true,.c (.v r.val)),(59,true,.c (.v (.int .i64 i))),(62,true,.c (.v (.int .i64 to))),(63,true,.c (.v o.val)),(55,true,.c (.s 1)),(56,true,.c (.s 2)),(60,true,.c (.s 3))],[(0,.box 57 [.v c.points.val,.v c.segments.val]),(1,.row 3 1 (pts.l.length+1) (pts.l.flatMap qx ++ [.int .i64 y])),(2,.row 3 1 0 []),(3,.row 3 1 1 [.int .i64 i])],q,4⟩ ?_ fun N3=>?_
     ·refine U_m 9 [] ⟨?_,trivial⟩
      ·refine U_b 9 0 [0] rfl rfl ?_
       simp only [go_sem,jq,jj,jy,jv,jk,jx,m,d,jX,jc,JA,jb,jG]
       refine ⟨fun u D=>zF6 D,by simp only [maxLen];omega,by omega,?_⟩
       refine zFQ [0,1,4,3] N1 rfl rfl ?_
       refine Evs ?_
       exact Gk
     refine zFM 5 #[true,true,true,true,true,true,true,true,true,false,true,false,false,true,true,false,false] ⟨[(1,true,.c (.v pts.val)),(2,true,.c (.v r.val)),(3,true,.c (.v (.int .i64 to))),(4,true,.c (.v o.val)),(5,true,.c (.p 0 0)),(10,true,.c (.v (.slice none 0 0))),(11,true,.c (.v (.int .i64 t))),(31,true,.c (.v c.segments.val)),(32,true,.c (.v (.int .i64 c.segments.l.length))),(33,true,.c (.v (.int .i64 i))),(49,true,.g [.v c.points.val,.v c.segments.val]),(51,true,.c (.v pts.val)),(53,true,.c (.v (.int .i64 y))),(57,true,.c (.v r.val)),(59,true,.c (.v (.int .i64 i))),(62,true,.c (.v (.int .i64 to))),(63,true,.c (.v o.val)),(55,true,.c (.s 1)),(56,true,.c (.s 2))],[(0,.box 57 [.v c.points.val,.v c.segments.val]),(1,.row 3 1 (pts.l.length+1) (pts.l.flatMap qx ++ [.int .i64 y])),(2,.row 3 1 0 [])],q,3⟩ ?_ fun N4=>?_
     ·refine U_m 9 [11] ⟨?_,?_,trivial⟩
      ·refine U_b 9 0 [0] rfl rfl ?_
       simp only [go_sem,jq,jj,jy,jv,jk,jx,m,d,jX,jc,JA,jb,jG]
       refine ⟨fun u D=>zF6 D,by simp only [maxLen];omega,by omega,?_⟩
       refine zFQ [0,1,3] N2 rfl rfl ?_
       refine Evs ?_
       exact Gk
      ·refine U_b 11 0 [0] rfl rfl ?_
       simp only [go_sem,jq,jj,jy,jv,jk,jx,m,d,jX,jc,JA,jb,jG]
       refine zFQ [0,1,2,3] N3 rfl rfl ?_
       refine Evs ?_
       exact Gk
     refine zFM 5 #[true,true,true,true,true,true,true,false,true,false,true,true,false,true,true,false,false] ⟨[(1,true,.c (.v pts.val)),(2,true,.c (.v r.val)),(3,true,.c (.v (.int .i64 to))),(4,true,.c (.v o.val)),(5,true,.c (.p 0 0)),(10,true,.c (.v (.slice none 0 0))),(11,true,.c (.v (.int .i64 t))),(31,true,.c (.v c.segments.val)),(32,true,.c (.v (.int .i64 c.segments.l.length))),(33,true,.c (.v (.int .i64 i))),(49,true,.g [.v c.points.val,.v c.segments.val]),(51,true,.c (.v pts.val)),(53,true,.c (.v (.int .i64 y))),(57,true,.c (.v r.val)),(59,true,.c (.v (.int .i64 i))),(62,true,.c (.v (.int .i64 to))),(63,true,.c (.v o.val)),(55,true,.c (.s 1)),(60,true,.c (.s 2))],[(0,.box 57 [.v c.points.val,.v c.segments.val]),(1,.row 3 1 (pts.l.length+1) (pts.l.flatMap qx ++ [.int .i64 y])),(2,.row 3 1 1 [.int .i64 i])],q,3⟩ ?_ fun N5=>?_
     ·refine U_m 7 [] ⟨?_,trivial⟩
      ·refine U_b 7 0 [0] rfl rfl ?_
       simp only [go_sem,jq,jj,jy,jv,jk,jx,m,d,jX,jc,JA,jb,jG]
       refine zFQ [0,1,3,2] N3 rfl rfl ?_
       refine Evs ?_
       exact Gk
     refine zFM 5 #[true,true,true,true,true,true,false,true,true,false,true,true,false,true,true,false,false] ⟨[(1,true,.c (.v pts.val)),(2,true,.c (.v r.val)),(3,true,.c (.v (.int .i64 to))),(4,true,.c (.v o.val)),(5,true,.c (.p 0 0)),(10,true,.c (.v (.slice none 0 0))),(11,true,.c (.v (.int .i64 t))),(31,true,.c (.v c.segments.val)),(32,true,.c (.v (.int .i64 c.segments.l.length))),(33,true,.c (.v (.int .i64 i))),(49,true,.g [.v c.points.val,.v c.segments.val]),(51,true,.c (.v pts.val)),(53,true,.c (.v (.int .i64 y))),(57,true,.c (.v r.val)),(59,true,.c (.v (.int .i64 i))),(62,true,.c (.v (.int .i64 to))),(63,true,.c (.v o.val)),(52,true,.c (.s 1)),(54,true,.c (.s 2)),(56,true,.c (.s 3)),(60,true,.c (.s 4))],[(0,.box 57 [.v c.points.val,.v c.segments.val]),(1,.row 3 1 pts.l.length (pts.l.flatMap qx)),(2,.row 3 1 1 [.int .i64 y]),(3,.row 3 1 0 []),(4,.row 3 1 1 [.int .i64 i])],q,5⟩ ?_ fun N6=>?_
     ·refine U_m 6 [] ⟨?_,trivial⟩
      ·refine U_b 6 0 [0] rfl rfl ?_
       simp only [go_sem,jq,jj,jy,jv,jk,jx,m,d,jX,jc,JA,jb,jG]
       refine ⟨by simp only [maxLen];omega,by omega,?_⟩
       refine zFQ [0,5,3,4] N3 rfl rfl ?_
       refine Evs ?_
       exact Gk
     refine zFM 6 #[true,true,true,true,true,true,true,false,true,false,true,false,false,true,true,false,false] ⟨[(1,true,.c (.v pts.val)),(2,true,.c (.v r.val)),(3,true,.c (.v (.int .i64 to))),(4,true,.c (.v o.val)),(5,true,.c (.p 0 0)),(10,true,.c (.v (.slice none 0 0))),(11,true,.c (.v (.int .i64 t))),(31,true,.c (.v c.segments.val)),(32,true,.c (.v (.int .i64 c.segments.l.length))),(33,true,.c (.v (.int .i64 i))),(49,true,.g [.v c.points.val,.v c.segments.val]),(51,true,.c (.v pts.val)),(53,true,.c (.v (.int .i64 y))),(57,true,.c (.v r.val)),(59,true,.c (.v (.int .i64 i))),(62,true,.c (.v (.int .i64 to))),(63,true,.c (.v o.val)),(55,true,.c (.s 1))],[(0,.box 57 [.v c.points.val,.v c.segments.val]),(1,.row 3 1 (pts.l.length+1) (pts.l.flatMap qx ++ [.int .i64 y]))],q,2⟩ ?_ fun N7=>?_
     ·refine U_m 7 [11] ⟨?_,?_,trivial⟩
      ·refine U_b 7 0 [0] rfl rfl ?_
       simp only [go_sem,jq,jj,jy,jv,jk,jx,m,d,jX,jc,JA,jb,jG]
       refine zFQ [0,1,2] N4 rfl rfl ?_
       refine Evs ?_
       exact Gk
      ·refine U_b 11 0 [0] rfl rfl ?_
       simp only [go_sem,jq,jj,jy,jv,jk,jx,m,d,jX,jc,JA,jb,jG]
       refine zFQ [0,1,2] N5 rfl rfl ?_
       refine Evs ?_
       exact Gk
     refine zFM 6 #[true,true,true,true,true,true,false,true,true,false,true,false,false,true,true,false,false] ⟨[(1,true,.c (.v pts.val)),(2,true,.c (.v r.val)),(3,true,.c (.v (.int .i64 to))),(4,true,.c (.v o.val)),(5,true,.c (.p 0 0)),(10,true,.c (.v (.slice none 0 0))),(11,true,.c (.v (.int .i64 t))),(31,true,.c (.v c.segments.val)),(32,true,.c (.v (.int .i64 c.segments.l.length))),(33,true,.c (.v (.int .i64 i))),(49,true,.g [.v c.points.val,.v c.segments.val]),(51,true,.c (.v pts.val)),(53,true,.c (.v (.int .i64 y))),(57,true,.c (.v r.val)),(59,true,.c (.v (.int .i64 i))),(62,true,.c (.v (.int .i64 to))),(63,true,.c (.v o.val)),(52,true,.c (.s 1)),(54,true,.c (.s 2)),(56,true,.c (.s 3))],[(0,.box 57 [.v c.points.val,.v c.segments.val]),(1,.row 3 1 pts.l.length (pts.l.flatMap qx)),(2,.row 3 1 1 [.int .i64 y]),(3,.row 3 1 0 [])],q,4⟩ ?_ fun N8=>?_
     ·refine U_m 6 [11] ⟨?_,?_,trivial⟩
      ·refine U_b 6 0 [0] rfl rfl ?_
       simp only [go_sem,jq,jj,jy,jv,jk,jx,m,d,jX,jc,JA,jb,jG]
       refine ⟨by simp only [maxLen];omega,by omega,?_⟩
       refine zFQ [0,4,3] N4 rfl rfl ?_
       refine Evs ?_
       exact Gk
      ·refine U_b 11 0 [0] rfl rfl ?_
       simp only [go_sem,jq,jj,jy,jv,jk,jx,m,d,jX,jc,JA,jb,jG]
       refine zFQ [0,1,2,3,4] N6 rfl rfl ?_
       refine Evs ?_
       exact Gk
     refine zFM 6 #[true,true,true,true,true,true,false,false,true,false,true,true,false,true,true,false,false] ⟨[(1,true,.c (.v pts.val)),(2,true,.c (.v r.val)),(3,true,.c (.v (.int .i64 to))),(4,true,.c (.v o.val)),(5,true,.c (.p 0 0)),(10,true,.c (.v (.slice none 0 0))),(11,true,.c (.v (.int .i64 t))),(31,true,.c (.v c.segments.val)),(32,true,.c (.v (.int .i64 c.segments.l.length))),(33,true,.c (.v (.int .i64 i))),(49,true,.g [.v c.points.val,.v c.segments.val]),(51,true,.c (.v pts.val)),(53,true,.c (.v (.int .i64 y))),(57,true,.c (.v r.val)),(59,true,.c (.v (.int .i64 i))),(62,true,.c (.v (.int .i64 to))),(63,true,.c (.v o.val)),(52,true,.c (.s 1)),(54,true,.c (.s 2)),(60,true,.c (.s 3))],[(0,.box 57 [.v c.points.val,.v c.segments.val]),(1,.row 3 1 pts.l.length (pts.l.flatMap qx)),(2,.row 3 1 1 [.int .i64 y]),(3,.row 3 1 1 [.int .i64 i])],q,4⟩ ?_ fun N9=>?_
     ·refine U_m 6 [7] ⟨?_,?_,trivial⟩
      ·refine U_b 6 0 [0] rfl rfl ?_
       simp only [go_sem,jq,jj,jy,jv,jk,jx,m,d,jX,jc,JA,jb,jG]
       refine ⟨by simp only [maxLen];omega,by omega,?_⟩
       refine zFQ [0,4,3] N5 rfl rfl ?_
       refine Evs ?_
       exact Gk
      ·refine U_b 7 0 [0] rfl rfl ?_
       simp only [go_sem,jq,jj,jy,jv,jk,jx,m,d,jX,jc,JA,jb,jG]
       refine zFQ [0,1,2,4,3] N6 rfl rfl ?_
       refine Evs ?_
       exact Gk
     refine zFM 6 #[true,true,true,true,true,false,false,true,true,false,true,true,false,true,true,false,false] ⟨[(1,true,.c (.v pts.val)),(2,true,.c (.v r.val)),(3,true,.c (.v (.int .i64 to))),(4,true,.c (.v o.val)),(5,true,.c (.p 0 0)),(10,true,.c (.v (.slice none 0 0))),(11,true,.c (.v (.int .i64 t))),(31,true,.c (.v c.segments.val)),(32,true,.c (.v (.int .i64 c.segments.l.length))),(33,true,.c (.v (.int .i64 i))),(49,true,.g [.v c.points.val,.v c.segments.val]),(51,true,.c (.v pts.val)),(53,true,.c (.v (.int .i64 y))),(57,true,.c (.v r.val)),(59,true,.c (.v (.int .i64 i))),(62,true,.c (.v (.int .i64 to))),(63,true,.c (.v o.val)),(52,true,.c (.s 1)),(56,true,.c (.s 2)),(60,true,.c (.s 3))],[(0,.box 57 [.v c.points.val,.v c.segments.val]),(1,.row 3 1 pts.l.length (pts.l.flatMap qx)),(2,.row 3 1 0 []),(3,.row 3 1 1 [.int .i64 i])],q,4⟩ ?_ fun am=>?_
     ·refine U_m 5 [] ⟨?_,trivial⟩
      ·refine U_b 5 0 [0] rfl rfl ?_
       simp only [go_sem,jq,jj,jy,jv,jk,jx,m,d,jX,jc,JA,jb,jG]
       refine zFQ [0,1,4,2,3] N6 rfl rfl ?_
       refine Evs ?_
       exact Gk
     refine zFM 6 #[true,true,true,false,true,true,false,true,true,false,true,true,false,true,true,false,false] ⟨[(1,true,.c (.v pts.val)),(2,true,.c (.v r.val)),(3,true,.c (.v (.int .i64 to))),(4,true,.c (.v o.val)),(5,true,.c (.p 0 0)),(10,true,.c (.v (.slice none 0 0))),(11,true,.c (.v (.int .i64 t))),(31,true,.c (.v c.segments.val)),(32,true,.c (.v (.int .i64 c.segments.l.length))),(33,true,.c (.v (.int .i64 i))),(49,true,.g [.v c.points.val,.v c.segments.val]),(51,true,.c (.v pts.val)),(53,true,.c (.v (.int .i64 y))),(57,true,.c (.v r.val)),(59,true,.c (.v (.int .i64 i))),(62,true,.c (.v (.int .i64 to))),(63,true,.c (.v o.val)),(50,true,.c (.s 1)),(54,true,.c (.s 2)),(56,true,.c (.s 3)),(60,true,.c (.s 4))],[(0,.box 57 [.v c.points.val,.v c.segments.val]),(1,.row 3 1 0 []),(2,.row 3 1 1 [.int .i64 y]),(3,.row 3 1 0 []),(4,.row 3 1 1 [.int .i64 i])],q,5⟩ ?_ fun ac=>?_
     ·refine U_m 3 [] ⟨?_,trivial⟩
      ·refine U_b 3 0 [0] rfl rfl ?_
       simp only [go_sem,jq,jj,jy,jv,jk,jx,m,d,jX,jc,JA,jb,jG]
       refine ⟨fun u D=>zF6 D,by simp only [maxLen];omega,by omega,?_⟩
       refine zFQ [0,5,2,3,4] N6 rfl rfl ?_
       refine Evs ?_
       exact Gk
     refine zFM 7 #[true,true,true,true,true,true,false,false,true,false,true,false,false,true,true,false,false] ⟨[(1,true,.c (.v pts.val)),(2,true,.c (.v r.val)),(3,true,.c (.v (.int .i64 to))),(4,true,.c (.v o.val)),(5,true,.c (.p 0 0)),(10,true,.c (.v (.slice none 0 0))),(11,true,.c (.v (.int .i64 t))),(31,true,.c (.v c.segments.val)),(32,true,.c (.v (.int .i64 c.segments.l.length))),(33,true,.c (.v (.int .i64 i))),(49,true,.g [.v c.points.val,.v c.segments.val]),(51,true,.c (.v pts.val)),(53,true,.c (.v (.int .i64 y))),(57,true,.c (.v r.val)),(59,true,.c (.v (.int .i64 i))),(62,true,.c (.v (.int .i64 to))),(63,true,.c (.v o.val)),(52,true,.c (.s 1)),(54,true,.c (.s 2))],[(0,.box 57 [.v c.points.val,.v c.segments.val]),(1,.row 3 1 pts.l.length (pts.l.flatMap qx)),(2,.row 3 1 1 [.int .i64 y])],q,3⟩ ?_ fun bh=>?_
     ·refine U_m 6 [7,11] ⟨?_,?_,?_,trivial⟩
      ·refine U_b 6 0 [0] rfl rfl ?_
       simp only [go_sem,jq,jj,jy,jv,jk,jx,m,d,jX,jc,JA,jb,jG]
       refine ⟨by simp only [maxLen];omega,by omega,?_⟩
       refine zFQ [0,3] N7 rfl rfl ?_
       refine Evs ?_
       exact Gk
      ·refine U_b 7 0 [0] rfl rfl ?_
       simp only [go_sem,jq,jj,jy,jv,jk,jx,m,d,jX,jc,JA,jb,jG]
       refine zFQ [0,1,2,3] N8 rfl rfl ?_
       refine Evs ?_
       exact Gk
      ·refine U_b 11 0 [0] rfl rfl ?_
       simp only [go_sem,jq,jj,jy,jv,jk,jx,m,d,jX,jc,JA,jb,jG]
       refine zFQ [0,1,2,3] N9 rfl rfl ?_
       refine Evs ?_
       exact Gk
     refine zFM 7 #[true,true,true,true,true,false,false,true,true,false,true,false,false,true,true,false,false] ⟨[(1,true,.c (.v pts.val)),(2,true,.c (.v r.val)),(3,true,.c (.v (.int .i64 to))),(4,true,.c (.v o.val)),(5,true,.c (.p 0 0)),(10,true,.c (.v (.slice none 0 0))),(11,true,.c (.v (.int .i64 t))),(31,true,.c (.v c.segments.val)),(32,true,.c (.v (.int .i64 c.segments.l.length))),(33,true,.c (.v (.int .i64 i))),(49,true,.g [.v c.points.val,.v c.segments.val]),(51,true,.c (.v pts.val)),(53,true,.c (.v (.int .i64 y))),(57,true,.c (.v r.val)),(59,true,.c (.v (.int .i64 i))),(62,true,.c (.v (.int .i64 to))),(63,true,.c (.v o.val)),(52,true,.c (.s 1)),(56,true,.c (.s 2))],[(0,.box 57 [.v c.points.val,.v c.segments.val]),(1,.row 3 1 pts.l.length (pts.l.flatMap qx)),(2,.row 3 1 0 [])],q,3⟩ ?_ fun bi=>?_
     ·refine U_m 5 [11] ⟨?_,?_,trivial⟩
      ·refine U_b 5 0 [0] rfl rfl ?_
       simp only [go_sem,jq,jj,jy,jv,jk,jx,m,d,jX,jc,JA,jb,jG]
       refine zFQ [0,1,3,2] N8 rfl rfl ?_
       refine Evs ?_
       exact Gk
      ·refine U_b 11 0 [0] rfl rfl ?_
       simp only [go_sem,jq,jj,jy,jv,jk,jx,m,d,jX,jc,JA,jb,jG]
       refine zFQ [0,1,2,3] am rfl rfl ?_
       refine Evs ?_
       exact Gk
     refine zFM 7 #[true,true,true,true,true,false,false,false,true,false,true,true,false,true,true,false,false] ⟨[(1,true,.c (.v pts.val)),(2,true,.c (.v r.val)),(3,true,.c (.v (.int .i64 to))),(4,true,.c (.v o.val)),(5,true,.c (.p 0 0)),(10,true,.c (.v (.slice none 0 0))),(11,true,.c (.v (.int .i64 t))),(31,true,.c (.v c.segments.val)),(32,true,.c (.v (.int .i64 c.segments.l.length))),(33,true,.c (.v (.int .i64 i))),(49,true,.g [.v c.points.val,.v c.segments.val]),(51,true,.c (.v pts.val)),(53,true,.c (.v (.int .i64 y))),(57,true,.c (.v r.val)),(59,true,.c (.v (.int .i64 i))),(62,true,.c (.v (.int .i64 to))),(63,true,.c (.v o.val)),(52,true,.c (.s 1)),(60,true,.c (.s 2))],[(0,.box 57 [.v c.points.val,.v c.segments.val]),(1,.row 3 1 pts.l.length (pts.l.flatMap qx)),(2,.row 3 1 1 [.int .i64 i])],q,3⟩ ?_ fun bj=>?_
     ·refine U_m 5 [7] ⟨?_,?_,trivial⟩
      ·refine U_b 5 0 [0] rfl rfl ?_
       simp only [go_sem,jq,jj,jy,jv,jk,jx,m,d,jX,jc,JA,jb,jG]
       refine zFQ [0,1,3,2] N9 rfl rfl ?_
       refine Evs ?_
       exact Gk
      ·refine U_b 7 0 [0] rfl rfl ?_
       simp only [go_sem,jq,jj,jy,jv,jk,jx,m,d,jX,jc,JA,jb,jG]
       refine zFQ [0,1,3,2] am rfl rfl ?_
       refine Evs ?_
       exact Gk
     refine zFM 7 #[true,true,true,false,true,true,false,true,true,false,true,false,false,true,true,false,false] ⟨[(1,true,.c (.v pts.val)),(2,true,.c (.v r.val)),(3,true,.c (.v (.int .i64 to))),(4,true,.c (.v o.val)),(5,true,.c (.p 0 0)),(10,true,.c (.v (.slice none 0 0))),(11,true,.c (.v (.int .i64 t))),(31,true,.c (.v c.segments.val)),(32,true,.c (.v (.int .i64 c.segments.l.length))),(33,true,.c (.v (.int .i64 i))),(49,true,.g [.v c.points.val,.v c.segments.val]),(51,true,.c (.v pts.val)),(53,true,.c (.v (.int .i64 y))),(57,true,.c (.v r.val)),(59,true,.c (.v (.int .i64 i))),(62,true,.c (.v (.int .i64 to))),(63,true,.c (.v o.val)),(50,true,.c (.s 1)),(54,true,.c (.s 2)),(56,true,.c (.s 3))],[(0,.box 57 [.v c.points.val,.v c.segments.val]),(1,.row 3 1 0 []),(2,.row 3 1 1 [.int .i64 y]),(3,.row 3 1 0 [])],q,4⟩ ?_ fun an=>?_
     ·refine U_m 3 [11] ⟨?_,?_,trivial⟩
      ·refine U_b 3 0 [0] rfl rfl ?_
       simp only [go_sem,jq,jj,jy,jv,jk,jx,m,d,jX,jc,JA,jb,jG]
       refine ⟨fun u D=>zF6 D,by simp only [maxLen];omega,by omega,?_⟩
       refine zFQ [0,4,2,3] N8 rfl rfl ?_
       refine Evs ?_
       exact Gk
      ·refine U_b 11 0 [0] rfl rfl ?_
       simp only [go_sem,jq,jj,jy,jv,jk,jx,m,d,jX,jc,JA,jb,jG]
       refine zFQ [0,1,2,3,4] ac rfl rfl ?_
       refine Evs ?_
       exact Gk
     refine zFM 7 #[true,true,true,false,true,true,false,false,true,false,true,true,false,true,true,false,false] ⟨[(1,true,.c (.v pts.val)),(2,true,.c (.v r.val)),(3,true,.c (.v (.int .i64 to))),(4,true,.c (.v o.val)),(5,true,.c (.p 0 0)),(10,true,.c (.v (.slice none 0 0))),(11,true,.c (.v (.int .i64 t))),(31,true,.c (.v c.segments.val)),(32,true,.c (.v (.int .i64 c.segments.l.length))),(33,true,.c (.v (.int .i64 i))),(49,true,.g [.v c.points.val,.v c.segments.val]),(51,true,.c (.v pts.val)),(53,true,.c (.v (.int .i64 y))),(57,true,.c (.v r.val)),(59,true,.c (.v (.int .i64 i))),(62,true,.c (.v (.int .i64 to))),(63,true,.c (.v o.val)),(50,true,.c (.s 1)),(54,true,.c (.s 2)),(60,true,.c (.s 3))],[(0,.box 57 [.v c.points.val,.v c.segments.val]),(1,.row 3 1 0 []),(2,.row 3 1 1 [.int .i64 y]),(3,.row 3 1 1 [.int .i64 i])],q,4⟩ ?_ fun ao=>?_
     ·refine U_m 3 [7] ⟨?_,?_,trivial⟩
      ·refine U_b 3 0 [0] rfl rfl ?_
       simp only [go_sem,jq,jj,jy,jv,jk,jx,m,d,jX,jc,JA,jb,jG]
       refine ⟨fun u D=>zF6 D,by simp only [maxLen];omega,by omega,?_⟩
       refine zFQ [0,4,2,3] N9 rfl rfl ?_
       refine Evs ?_
       exact Gk
      ·refine U_b 7 0 [0] rfl rfl ?_
       simp only [go_sem,jq,jj,jy,jv,jk,jx,m,d,jX,jc,JA,jb,jG]
       refine zFQ [0,1,2,4,3] ac rfl rfl ?_
       refine Evs ?_
       exact Gk
     refine zFM 7 #[true,true,true,false,true,false,false,true,true,false,true,true,false,true,true,false,false] ⟨[(1,true,.c (.v pts.val)),(2,true,.c (.v r.val)),(3,true,.c (.v (.int .i64 to))),(4,true,.c (.v o.val)),(5,true,.c (.p 0 0)),(10,true,.c (.v (.slice none 0 0))),(11,true,.c (.v (.int .i64 t))),(31,true,.c (.v c.segments.val)),(32,true,.c (.v (.int .i64 c.segments.l.length))),(33,true,.c (.v (.int .i64 i))),(49,true,.g [.v c.points.val,.v c.segments.val]),(51,true,.c (.v pts.val)),(53,true,.c (.v (.int .i64 y))),(57,true,.c (.v r.val)),(59,true,.c (.v (.int .i64 i))),(62,true,.c (.v (.int .i64 to))),(63,true,.c (.v o.val)),(50,true,.c (.s 1)),(56,true,.c (.s 2)),(60,true,.c (.s 3))],[(0,.box 57 [.v c.points.val,.v c.segments.val]),(1,.row 3 1 0 []),(2,.row 3 1 0 []),(3,.row 3 1 1 [.int .i64 i])],q,4⟩ ?_ fun ap=>?_
     ·refine U_m 3 [5] ⟨?_,?_,trivial⟩
      ·refine U_b 3 0 [0] rfl rfl ?_
       simp only [go_sem,jq,jj,jy,jv,jk,jx,m,d,jX,jc,JA,jb,jG]
       refine ⟨fun u D=>zF6 D,by simp only [maxLen];omega,by omega,?_⟩
       refine zFQ [0,4,2,3] am rfl rfl ?_
       refine Evs ?_
       exact Gk
      ·refine U_b 5 0 [0] rfl rfl ?_
       simp only [go_sem,jq,jj,jy,jv,jk,jx,m,d,jX,jc,JA,jb,jG]
       refine zFQ [0,1,4,2,3] ac rfl rfl ?_
       refine Evs ?_
       exact Gk
     refine zFM 7 #[true,false,true,false,true,true,false,true,true,false,true,true,false,true,true,false,false] ⟨[(1,true,.c (.v pts.val)),(2,true,.c (.v r.val)),(3,true,.c (.v (.int .i64 to))),(4,true,.c (.v o.val)),(5,true,.c (.p 0 0)),(10,true,.c (.v (.slice none 0 0))),(11,true,.c (.v (.int .i64 t))),(31,true,.c (.v c.segments.val)),(32,true,.c (.v (.int .i64 c.segments.l.length))),(33,true,.c (.v (.int .i64 i))),(49,true,.g [.v c.points.val,.v c.segments.val]),(51,true,.c (.v pts.val)),(53,true,.c (.v (.int .i64 y))),(57,true,.c (.v r.val)),(59,true,.c (.v (.int .i64 i))),(62,true,.c (.v (.int .i64 to))),(63,true,.c (.v o.val)),(54,true,.c (.s 1)),(56,true,.c (.s 2)),(60,true,.c (.s 3))],[(0,.box 57 [.v c.points.val,.v c.segments.val]),(1,.row 3 1 1 [.int .i64 y]),(2,.row 3 1 0 []),(3,.row 3 1 1 [.int .i64 i])],q,4⟩ ?_ fun aq=>?_
     ·refine U_m 1 [] ⟨?_,trivial⟩
      ·refine U_b 1 0 [0] rfl rfl ?_
       simp only [go_sem,jq,jj,jy,jv,jk,jx,m,d,jX,jc,JA,jb,jG]
       refine zFQ [0,4,1,2,3] ac rfl rfl ?_
       refine Evs ?_
       exact Gk
     refine zFM 8 #[true,true,true,true,true,false,false,false,true,false,true,false,false,true,true,false,false] ⟨[(1,true,.c (.v pts.val)),(2,true,.c (.v r.val)),(3,true,.c (.v (.int .i64 to))),(4,true,.c (.v o.val)),(5,true,.c (.p 0 0)),(10,true,.c (.v (.slice none 0 0))),(11,true,.c (.v (.int .i64 t))),(31,true,.c (.v c.segments.val)),(32,true,.c (.v (.int .i64 c.segments.l.length))),(33,true,.c (.v (.int .i64 i))),(49,true,.g [.v c.points.val,.v c.segments.val]),(51,true,.c (.v pts.val)),(53,true,.c (.v (.int .i64 y))),(57,true,.c (.v r.val)),(59,true,.c (.v (.int .i64 i))),(62,true,.c (.v (.int .i64 to))),(63,true,.c (.v o.val)),(52,true,.c (.s 1))],[(0,.box 57 [.v c.points.val,.v c.segments.val]),(1,.row 3 1 pts.l.length (pts.l.flatMap qx))],q,2⟩ ?_ fun ct=>?_
     ·refine U_m 5 [7,11] ⟨?_,?_,?_,trivial⟩
      ·refine U_b 5 0 [0] rfl rfl ?_
       simp only [go_sem,jq,jj,jy,jv,jk,jx,m,d,jX,jc,JA,jb,jG]
       refine zFQ [0,1,2] bh rfl rfl ?_
       refine Evs ?_
       exact Gk
      ·refine U_b 7 0 [0] rfl rfl ?_
       simp only [go_sem,jq,jj,jy,jv,jk,jx,m,d,jX,jc,JA,jb,jG]
       refine zFQ [0,1,2] bi rfl rfl ?_
       refine Evs ?_
       exact Gk
      ·refine U_b 11 0 [0] rfl rfl ?_
       simp only [go_sem,jq,jj,jy,jv,jk,jx,m,d,jX,jc,JA,jb,jG]
       refine zFQ [0,1,2] bj rfl rfl ?_
       refine Evs ?_
       exact Gk
     refine zFM 8 #[true,true,true,false,true,true,false,false,true,false,true,false,false,true,true,false,false] ⟨[(1,true,.c (.v pts.val)),(2,true,.c (.v r.val)),(3,true,.c (.v (.int .i64 to))),(4,true,.c (.v o.val)),(5,true,.c (.p 0 0)),(10,true,.c (.v (.slice none 0 0))),(11,true,.c (.v (.int .i64 t))),(31,true,.c (.v c.segments.val)),(32,true,.c (.v (.int .i64 c.segments.l.length))),(33,true,.c (.v (.int .i64 i))),(49,true,.g [.v c.points.val,.v c.segments.val]),(51,true,.c (.v pts.val)),(53,true,.c (.v (.int .i64 y))),(57,true,.c (.v r.val)),(59,true,.c (.v (.int .i64 i))),(62,true,.c (.v (.int .i64 to))),(63,true,.c (.v o.val)),(50,true,.c (.s 1)),(54,true,.c (.s 2))],[(0,.box 57 [.v c.points.val,.v c.segments.val]),(1,.row 3 1 0 []),(2,.row 3 1 1 [.int .i64 y])],q,3⟩ ?_ fun bk=>?_
     ·refine U_m 3 [7,11] ⟨?_,?_,?_,trivial⟩
      ·refine U_b 3 0 [0] rfl rfl ?_
       simp only [go_sem,jq,jj,jy,jv,jk,jx,m,d,jX,jc,JA,jb,jG]
       refine ⟨fun u D=>zF6 D,by simp only [maxLen];omega,by omega,?_⟩
       refine zFQ [0,3,2] bh rfl rfl ?_
       refine Evs ?_
       exact Gk
      ·refine U_b 7 0 [0] rfl rfl ?_
       simp only [go_sem,jq,jj,jy,jv,jk,jx,m,d,jX,jc,JA,jb,jG]
       refine zFQ [0,1,2,3] an rfl rfl ?_
       refine Evs ?_
       exact Gk
      ·refine U_b 11 0 [0] rfl rfl ?_
       simp only [go_sem,jq,jj,jy,jv,jk,jx,m,d,jX,jc,JA,jb,jG]
       refine zFQ [0,1,2,3] ao rfl rfl ?_
       refine Evs ?_
       exact Gk
     refine zFM 8 #[true,true,true,false,true,false,false,true,true,false,true,false,false,true,true,false,false] ⟨[(1,true,.c (.v pts.val)),(2,true,.c (.v r.val)),(3,true,.c (.v (.int .i64 to))),(4,true,.c (.v o.val)),(5,true,.c (.p 0 0)),(10,true,.c (.v (.slice none 0 0))),(11,true,.c (.v (.int .i64 t))),(31,true,.c (.v c.segments.val)),(32,true,.c (.v (.int .i64 c.segments.l.length))),(33,true,.c (.v (.int .i64 i))),(49,true,.g [.v c.points.val,.v c.segments.val]),(51,true,.c (.v pts.val)),(53,true,.c (.v (.int .i64 y))),(57,true,.c (.v r.val)),(59,true,.c (.v (.int .i64 i))),(62,true,.c (.v (.int .i64 to))),(63,true,.c (.v o.val)),(50,true,.c (.s 1)),(56,true,.c (.s 2))],[(0,.box 57 [.v c.points.val,.v c.segments.val]),(1,.row 3 1 0 []),(2,.row 3 1 0 [])],q,3⟩ ?_ fun bl=>?_
     ·refine U_m 3 [5,11] ⟨?_,?_,?_,trivial⟩
      ·refine U_b 3 0 [0] rfl rfl ?_
       simp only [go_sem,jq,jj,jy,jv,jk,jx,m,d,jX,jc,JA,jb,jG]
       refine ⟨fun u D=>zF6 D,by simp only [maxLen];omega,by omega,?_⟩
       refine zFQ [0,3,2] bi rfl rfl ?_
       refine Evs ?_
       exact Gk
      ·refine U_b 5 0 [0] rfl rfl ?_
       simp only [go_sem,jq,jj,jy,jv,jk,jx,m,d,jX,jc,JA,jb,jG]
       refine zFQ [0,1,3,2] an rfl rfl ?_
       refine Evs ?_
       exact Gk
      ·refine U_b 11 0 [0] rfl rfl ?_
       simp only [go_sem,jq,jj,jy,jv,jk,jx,m,d,jX,jc,JA,jb,jG]
       refine zFQ [0,1,2,3] ap rfl rfl ?_
       refine Evs ?_
       exact Gk
     refine zFM 8 #[true,true,true,false,true,false,false,false,true,false,true,true,false,true,true,false,false] ⟨[(1,true,.c (.v pts.val)),(2,true,.c (.v r.val)),(3,true,.c (.v (.int .i64 to))),(4,true,.c (.v o.val)),(5,true,.c (.p 0 0)),(10,true,.c (.v (.slice none 0 0))),(11,true,.c (.v (.int .i64 t))),(31,true,.c (.v c.segments.val)),(32,true,.c (.v (.int .i64 c.segments.l.length))),(33,true,.c (.v (.int .i64 i))),(49,true,.g [.v c.points.val,.v c.segments.val]),(51,true,.c (.v pts.val)),(53,true,.c (.v (.int .i64 y))),(57,true,.c (.v r.val)),(59,true,.c (.v (.int .i64 i))),(62,true,.c (.v (.int .i64 to))),(63,true,.c (.v o.val)),(50,true,.c (.s 1)),(60,true,.c (.s 2))],[(0,.box 57 [.v c.points.val,.v c.segments.val]),(1,.row 3 1 0 []),(2,.row 3 1 1 [.int .i64 i])],q,3⟩ ?_ fun bm=>?_
     ·refine U_m 3 [5,7] ⟨?_,?_,?_,trivial⟩
      ·refine U_b 3 0 [0] rfl rfl ?_
       simp only [go_sem,jq,jj,jy,jv,jk,jx,m,d,jX,jc,JA,jb,jG]
       refine ⟨fun u D=>zF6 D,by simp only [maxLen];omega,by omega,?_⟩
       refine zFQ [0,3,2] bj rfl rfl ?_
       refine Evs ?_
       exact Gk
      ·refine U_b 5 0 [0] rfl rfl ?_
       simp only [go_sem,jq,jj,jy,jv,jk,jx,m,d,jX,jc,JA,jb,jG]
       refine zFQ [0,1,3,2] ao rfl rfl ?_
       refine Evs ?_
       exact Gk
      ·refine U_b 7 0 [0] rfl rfl ?_
       simp only [go_sem,jq,jj,jy,jv,jk,jx,m,d,jX,jc,JA,jb,jG]
       refine zFQ [0,1,3,2] ap rfl rfl ?_
       refine Evs ?_
       exact Gk
     refine zFM 8 #[true,false,true,false,true,true,false,true,true,false,true,false,false,true,true,false,false] ⟨[(1,true,.c (.v pts.val)),(2,true,.c (.v r.val)),(3,true,.c (.v (.int .i64 to))),(4,true,.c (.v o.val)),(5,true,.c (.p 0 0)),(10,true,.c (.v (.slice none 0 0))),(11,true,.c (.v (.int .i64 t))),(31,true,.c (.v c.segments.val)),(32,true,.c (.v (.int .i64 c.segments.l.length))),(33,true,.c (.v (.int .i64 i))),(49,true,.g [.v c.points.val,.v c.segments.val]),(51,true,.c (.v pts.val)),(53,true,.c (.v (.int .i64 y))),(57,true,.c (.v r.val)),(59,true,.c (.v (.int .i64 i))),(62,true,.c (.v (.int .i64 to))),(63,true,.c (.v o.val)),(54,true,.c (.s 1)),(56,true,.c (.s 2))],[(0,.box 57 [.v c.points.val,.v c.segments.val]),(1,.row 3 1 1 [.int .i64 y]),(2,.row 3 1 0 [])],q,3⟩ ?_ fun bn=>?_
     ·refine U_m 1 [11] ⟨?_,?_,trivial⟩
      ·refine U_b 1 0 [0] rfl rfl ?_
       simp only [go_sem,jq,jj,jy,jv,jk,jx,m,d,jX,jc,JA,jb,jG]
       refine zFQ [0,3,1,2] an rfl rfl ?_
       refine Evs ?_
       exact Gk
      ·refine U_b 11 0 [0] rfl rfl ?_
       simp only [go_sem,jq,jj,jy,jv,jk,jx,m,d,jX,jc,JA,jb,jG]
       refine zFQ [0,1,2,3] aq rfl rfl ?_
       refine Evs ?_
       exact Gk
     refine zFM 8 #[true,false,true,false,true,true,false,false,true,false,true,true,false,true,true,false,false] ⟨[(1,true,.c (.v pts.val)),(2,true,.c (.v r.val)),(3,true,.c (.v (.int .i64 to))),(4,true,.c (.v o.val)),(5,true,.c (.p 0 0)),(10,true,.c (.v (.slice none 0 0))),(11,true,.c (.v (.int .i64 t))),(31,true,.c (.v c.segments.val)),(32,true,.c (.v (.int .i64 c.segments.l.length))),(33,true,.c (.v (.int .i64 i))),(49,true,.g [.v c.points.val,.v c.segments.val]),(51,true,.c (.v pts.val)),(53,true,.c (.v (.int .i64 y))),(57,true,.c (.v r.val)),(59,true,.c (.v (.int .i64 i))),(62,true,.c (.v (.int .i64 to))),(63,true,.c (.v o.val)),(54,true,.c (.s 1)),(60,true,.c (.s 2))],[(0,.box 57 [.v c.points.val,.v c.segments.val]),(1,.row 3 1 1 [.int .i64 y]),(2,.row 3 1 1 [.int .i64 i])],q,3⟩ ?_ fun bp=>?_
     ·refine U_m 1 [7] ⟨?_,?_,trivial⟩
      ·refine U_b 1 0 [0] rfl rfl ?_
       simp only [go_sem,jq,jj,jy,jv,jk,jx,m,d,jX,jc,JA,jb,jG]
       refine zFQ [0,3,1,2] ao rfl rfl ?_
       refine Evs ?_
       exact Gk
      ·refine U_b 7 0 [0] rfl rfl ?_
       simp only [go_sem,jq,jj,jy,jv,jk,jx,m,d,jX,jc,JA,jb,jG]
       refine zFQ [0,1,3,2] aq rfl rfl ?_
       refine Evs ?_
       exact Gk
     refine zFM 8 #[true,false,true,false,true,false,false,true,true,false,true,true,false,true,true,false,false] ⟨[(1,true,.c (.v pts.val)),(2,true,.c (.v r.val)),(3,true,.c (.v (.int .i64 to))),(4,true,.c (.v o.val)),(5,true,.c (.p 0 0)),(10,true,.c (.v (.slice none 0 0))),(11,true,.c (.v (.int .i64 t))),(31,true,.c (.v c.segments.val)),(32,true,.c (.v (.int .i64 c.segments.l.length))),(33,true,.c (.v (.int .i64 i))),(49,true,.g [.v c.points.val,.v c.segments.val]),(51,true,.c (.v pts.val)),(53,true,.c (.v (.int .i64 y))),(57,true,.c (.v r.val)),(59,true,.c (.v (.int .i64 i))),(62,true,.c (.v (.int .i64 to))),(63,true,.c (.v o.val)),(56,true,.c (.s 1)),(60,true,.c (.s 2))],[(0,.box 57 [.v c.points.val,.v c.segments.val]),(1,.row 3 1 0 []),(2,.row 3 1 1 [.int .i64 i])],q,3⟩ ?_ fun bq=>?_
     ·refine U_m 1 [5] ⟨?_,?_,trivial⟩
      ·refine U_b 1 0 [0] rfl rfl ?_
       simp only [go_sem,jq,jj,jy,jv,jk,jx,m,d,jX,jc,JA,jb,jG]
       refine zFQ [0,3,1,2] ap rfl rfl ?_
       refine Evs ?_
       exact Gk
      ·refine U_b 5 0 [0] rfl rfl ?_
       simp only [go_sem,jq,jj,jy,jv,jk,jx,m,d,jX,jc,JA,jb,jG]
       refine zFQ [0,3,1,2] aq rfl rfl ?_
       refine Evs ?_
       exact Gk
     refine zFM 9 #[true,true,true,false,true,false,false,false,true,false,true,false,false,true,true,false,false] ⟨[(1,true,.c (.v pts.val)),(2,true,.c (.v r.val)),(3,true,.c (.v (.int .i64 to))),(4,true,.c (.v o.val)),(5,true,.c (.p 0 0)),(10,true,.c (.v (.slice none 0 0))),(11,true,.c (.v (.int .i64 t))),(31,true,.c (.v c.segments.val)),(32,true,.c (.v (.int .i64 c.segments.l.length))),(33,true,.c (.v (.int .i64 i))),(49,true,.g [.v c.points.val,.v c.segments.val]),(51,true,.c (.v pts.val)),(53,true,.c (.v (.int .i64 y))),(57,true,.c (.v r.val)),(59,true,.c (.v (.int .i64 i))),(62,true,.c (.v (.int .i64 to))),(63,true,.c (.v o.val)),(50,true,.c (.s 1))],[(0,.box 57 [.v c.points.val,.v c.segments.val]),(1,.row 3 1 0 [])],q,2⟩ ?_ fun cu=>?_
     ·refine U_m 3 [5,7,11] ⟨?_,?_,?_,?_,trivial⟩
      ·refine U_b 3 0 [0] rfl rfl ?_
       simp only [go_sem,jq,jj,jy,jv,jk,jx,m,d,jX,jc,JA,jb,jG]
       refine ⟨fun u D=>zF6 D,by simp only [maxLen];omega,by omega,?_⟩
       refine zFQ [0,2] ct rfl rfl ?_
       refine Evs ?_
       exact Gk
      ·refine U_b 5 0 [0] rfl rfl ?_
       simp only [go_sem,jq,jj,jy,jv,jk,jx,m,d,jX,jc,JA,jb,jG]
       refine zFQ [0,1,2] bk rfl rfl ?_
       refine Evs ?_
       exact Gk
      ·refine U_b 7 0 [0] rfl rfl ?_
       simp only [go_sem,jq,jj,jy,jv,jk,jx,m,d,jX,jc,JA,jb,jG]
       refine zFQ [0,1,2] bl rfl rfl ?_
       refine Evs ?_
       exact Gk
      ·refine U_b 11 0 [0] rfl rfl ?_
       simp only [go_sem,jq,jj,jy,jv,jk,jx,m,d,jX,jc,JA,jb,jG]
       refine zFQ [0,1,2] bm rfl rfl ?_
       refine Evs ?_
       exact Gk
     refine zFM 9 #[true,false,true,false,true,true,false,false,true,false,true,false,false,true,true,false,false] ⟨[(1,true,.c (.v pts.val)),(2,true,.c (.v r.val)),(3,true,.c (.v (.int .i64 to))),(4,true,.c (.v o.val)),(5,true,.c (.p 0 0)),(10,true,.c (.v (.slice none 0 0))),(11,true,.c (.v (.int .i64 t))),(31,true,.c (.v c.segments.val)),(32,true,.c (.v (.int .i64 c.segments.l.length))),(33,true,.c (.v (.int .i64 i))),(49,true,.g [.v c.points.val,.v c.segments.val]),(51,true,.c (.v pts.val)),(53,true,.c (.v (.int .i64 y))),(57,true,.c (.v r.val)),(59,true,.c (.v (.int .i64 i))),(62,true,.c (.v (.int .i64 to))),(63,true,.c (.v o.val)),(54,true,.c (.s 1))],[(0,.box 57 [.v c.points.val,.v c.segments.val]),(1,.row 3 1 1 [.int .i64 y])],q,2⟩ ?_ fun cw=>?_
     ·refine U_m 1 [7,11] ⟨?_,?_,?_,trivial⟩
      ·refine U_b 1 0 [0] rfl rfl ?_
       simp only [go_sem,jq,jj,jy,jv,jk,jx,m,d,jX,jc,JA,jb,jG]
       refine zFQ [0,2,1] bk rfl rfl ?_
       refine Evs ?_
       exact Gk
      ·refine U_b 7 0 [0] rfl rfl ?_
       simp only [go_sem,jq,jj,jy,jv,jk,jx,m,d,jX,jc,JA,jb,jG]
       refine zFQ [0,1,2] bn rfl rfl ?_
       refine Evs ?_
       exact Gk
      ·refine U_b 11 0 [0] rfl rfl ?_
       simp only [go_sem,jq,jj,jy,jv,jk,jx,m,d,jX,jc,JA,jb,jG]
       refine zFQ [0,1,2] bp rfl rfl ?_
       refine Evs ?_
       exact Gk
     refine zFM 9 #[true,false,true,false,true,false,false,true,true,false,true,false,false,true,true,false,false] ⟨[(1,true,.c (.v pts.val)),(2,true,.c (.v r.val)),(3,true,.c (.v (.int .i64 to))),(4,true,.c (.v o.val)),(5,true,.c (.p 0 0)),(10,true,.c (.v (.slice none 0 0))),(11,true,.c (.v (.int .i64 t))),(31,true,.c (.v c.segments.val)),(32,true,.c (.v (.int .i64 c.segments.l.length))),(33,true,.c (.v (.int .i64 i))),(49,true,.g [.v c.points.val,.v c.segments.val]),(51,true,.c (.v pts.val)),(53,true,.c (.v (.int .i64 y))),(57,true,.c (.v r.val)),(59,true,.c (.v (.int .i64 i))),(62,true,.c (.v (.int .i64 to))),(63,true,.c (.v o.val)),(56,true,.c (.s 1))],[(0,.box 57 [.v c.points.val,.v c.segments.val]),(1,.row 3 1 0 [])],q,2⟩ ?_ fun cy=>?_
     ·refine U_m 1 [5,11] ⟨?_,?_,?_,trivial⟩
      ·refine U_b 1 0 [0] rfl rfl ?_
       simp only [go_sem,jq,jj,jy,jv,jk,jx,m,d,jX,jc,JA,jb,jG]
       refine zFQ [0,2,1] bl rfl rfl ?_
       refine Evs ?_
       exact Gk
      ·refine U_b 5 0 [0] rfl rfl ?_
       simp only [go_sem,jq,jj,jy,jv,jk,jx,m,d,jX,jc,JA,jb,jG]
       refine zFQ [0,2,1] bn rfl rfl ?_
       refine Evs ?_
       exact Gk
      ·refine U_b 11 0 [0] rfl rfl ?_
       simp only [go_sem,jq,jj,jy,jv,jk,jx,m,d,jX,jc,JA,jb,jG]
       refine zFQ [0,1,2] bq rfl rfl ?_
       refine Evs ?_
       exact Gk
     refine zFM 9 #[true,false,true,false,true,false,false,false,true,false,true,true,false,true,true,false,false] ⟨[(1,true,.c (.v pts.val)),(2,true,.c (.v r.val)),(3,true,.c (.v (.int .i64 to))),(4,true,.c (.v o.val)),(5,true,.c (.p 0 0)),(10,true,.c (.v (.slice none 0 0))),(11,true,.c (.v (.int .i64 t))),(31,true,.c (.v c.segments.val)),(32,true,.c (.v (.int .i64 c.segments.l.length))),(33,true,.c (.v (.int .i64 i))),(49,true,.g [.v c.points.val,.v c.segments.val]),(51,true,.c (.v pts.val)),(53,true,.c (.v (.int .i64 y))),(57,true,.c (.v r.val)),(59,true,.c (.v (.int .i64 i))),(62,true,.c (.v (.int .i64 to))),(63,true,.c (.v o.val)),(60,true,.c (.s 1))],[(0,.box 57 [.v c.points.val,.v c.segments.val]),(1,.row 3 1 1 [.int .i64 i])],q,2⟩ ?_ fun cz=>?_
     ·refine U_m 1 [5,7] ⟨?_,?_,?_,trivial⟩
      ·refine U_b 1 0 [0] rfl rfl ?_
       simp only [go_sem,jq,jj,jy,jv,jk,jx,m,d,jX,jc,JA,jb,jG]
       refine zFQ [0,2,1] bm rfl rfl ?_
       refine Evs ?_
       exact Gk
      ·refine U_b 5 0 [0] rfl rfl ?_
       simp only [go_sem,jq,jj,jy,jv,jk,jx,m,d,jX,jc,JA,jb,jG]
       refine zFQ [0,2,1] bp rfl rfl ?_
       refine Evs ?_
       exact Gk
      ·refine U_b 7 0 [0] rfl rfl ?_
       simp only [go_sem,jq,jj,jy,jv,jk,jx,m,d,jX,jc,JA,jb,jG]
       refine zFQ [0,2,1] bq rfl rfl ?_
       refine Evs ?_
       exact Gk
     refine zFM 10 #[true,false,true,false,true,false,false,false,true,false,true,false,false,true,true,false,false] ⟨[(1,true,.c (.v pts.val)),(2,true,.c (.v r.val)),(3,true,.c (.v (.int .i64 to))),(4,true,.c (.v o.val)),(5,true,.c (.p 0 0)),(10,true,.c (.v (.slice none 0 0))),(11,true,.c (.v (.int .i64 t))),(31,true,.c (.v c.segments.val)),(32,true,.c (.v (.int .i64 c.segments.l.length))),(33,true,.c (.v (.int .i64 i))),(49,true,.g [.v c.points.val,.v c.segments.val]),(51,true,.c (.v pts.val)),(53,true,.c (.v (.int .i64 y))),(57,true,.c (.v r.val)),(59,true,.c (.v (.int .i64 i))),(62,true,.c (.v (.int .i64 to))),(63,true,.c (.v o.val))],[(0,.box 57 [.v c.points.val,.v c.segments.val])],q,1⟩ ?_ fun da=>?_
     ·refine U_m 1 [5,7,11] ⟨?_,?_,?_,?_,trivial⟩
      ·refine U_b 1 0 [0] rfl rfl ?_
       simp only [go_sem,jq,jj,jy,jv,jk,jx,m,d,jX,jc,JA,jb,jG]
       refine zFQ [0,1] cu rfl rfl ?_
       refine Evs ?_
       exact Gk
      ·refine U_b 5 0 [0] rfl rfl ?_
       simp only [go_sem,jq,jj,jy,jv,jk,jx,m,d,jX,jc,JA,jb,jG]
       refine zFQ [0,1] cw rfl rfl ?_
       refine Evs ?_
       exact Gk
      ·refine U_b 7 0 [0] rfl rfl ?_
       simp only [go_sem,jq,jj,jy,jv,jk,jx,m,d,jX,jc,JA,jb,jG]
       refine zFQ [0,1] cy rfl rfl ?_
       refine Evs ?_
       exact Gk
      ·refine U_b 11 0 [0] rfl rfl ?_
       simp only [go_sem,jq,jj,jy,jv,jk,jx,m,d,jX,jc,JA,jb,jG]
       refine zFQ [0,1] cz rfl rfl ?_
       refine Evs ?_
       exact Gk
     refine zFQ [0] da rfl rfl ?_
     refine Evs ?_
     exact Gk
    ·have X:¬ (0≤y∧y ∉ pts.l):=fun H=>by
      rw [decide_eq_false H.2] at X
      rcases Bool.and_eq_false_iff.1 X with e|e
      ·exact JF e H.1
      ·cases e
     rw [if_neg X] at ab
     refine Wk ?_
     refine ⟨(q,o),[0],⟨O,Q,M,by rw [hl];simp [jF,ab]⟩,?_⟩
     refine Evs ?_
     exact Gk
   rintro ⟨h3,o3⟩ ⟨W3,f3,l3,e3⟩
   simp only at W3 f3 l3 e3
   refine Wk ?_
   refine ⟨(i+1,h3,o3),[0],⟨F,W3,f3,l3,e3⟩,by simp only;omega,?_⟩
   refine Evs ?_
   exact Gi (zjA F (by omega))
  ·have dh:=zjI hd
   obtain rfl:i=c.segments.l.length:=by omega
   refine Wk ?_
   exact ⟨o,rfl,hl,O,Q,M⟩
theorem zF8 (a:Sl Int) (h:Hp) (c:a.Ok h) (j:a.l.length≤1048576):Ct jV 75 [a.val] h fun v h'=>∃ s:Sl Int,v=s.val∧s.l=a.l∧RowAt 3 h' s∧∀ g,s.a=some ⟨g,0,none⟩→h g=none:=by
 have b:=c.all (by decide)
 have k:(h.ldL a.val 1).isSome=true:=by rw [show h.ldL a.val 1=_ from b];rfl
 refine zdn (fun A W=>by simp) Tryz.func75 rfl rfl (by simp) fun W0=>?_
 repeat' first|refine Wa ?_|(simp only [go_sem,jq,jj,jy,jv,jk,jx,b,show h.ldL a.val 1=some (a.l.flatMap qx) from b,jX,jc];try rfl)|refine Wb ?_|fail
 refine ⟨by simp only [maxLen];omega,by omega,?_⟩
 repeat' first|refine Wa ?_|(simp only [go_sem,jq,jj,jy,jv,jk,jx,b,show h.ldL a.val 1=some (a.l.flatMap qx) from b,jX,jc];try rfl)|refine Wb ?_|fail
 refine ⟨fun u d=>by obtain ⟨x,_,e⟩:=List.mem_flatMap.1 d;exact uD x u e,by simp only [maxLen];omega,by omega,?_⟩
 refine zD5 1 a.l rfl rfl (jb _) rfl fun s h' f R i m n=>?_
 refine Wk ?_
 exact ⟨s,rfl,f,R,i⟩
theorem zF9 {l:List Int}:Jq 8 (metC l)=metC l:=qy (by rw [zER];exact qV _)
theorem zGa {l:List Int}:List.map SC.v (metV l)=metC l:=rfl
theorem zGb {l:List Int} {p:List (Nat × PB)}:((metC l).all fun x=>SC.okc p x)=true:=by
 rw [wY];intro x a
 simp only [metC,metV,yj,List.mem_map] at a
 obtain ⟨j,_,rfl⟩:=a
 rfl
theorem zGc {l:List Int} {r:Nat} {v:Value}:List.map (fun x=>SC.sub r v x) (metC l)=metC l:=rfl
theorem zGd {l:List Int}:List.map (fun x=>x.val) (metC l)=metV l:=by rw [metC,yj];exact ux _
def zGe (h:Hp) (b:Nat) (s:Sl (Sl Int)) (l:List (List Int)) (v:Value) (h':Hp):Prop :=
 ∃ s':Sl (Sl Int),s'.l.map (·.l)=s.l.map (·.l) ++ l∧WB 280 35 h' b s'∧(∀ g,s'.a=some ⟨g,0,none⟩→h g=none∨s.a=some ⟨g,0,none⟩)∧(zFV h b s).le (zFV h' b s')
theorem zGf (c:DChart) (hC:zBp (jK c)=true) (to:Int) (b:Nat) :
  ∀ (f:Nat) (l0:List Int) (a:Int) (r:Sl Int) (s:Sl (Sl Int)) (h:Hp),jD (zFV h b s) c→r.Ok (zFV h b s)→WB 280 35 h b s→(l0 ++ [a]).Nodup→(∀ x ∈ l0 ++ [a],0≤x∧x < c.points.l.length)→(l0 ++ [a]).length+f=9→r.l.length≤(l0 ++ [a]).length→s.l.length+10 ^ f≤2000000000 →
   Cw jV 275 [c.v,.int .i64 a,.int .i64 to,r.val,.agg (metV l0).toArray,.pointer (some ⟨b,0,none⟩)] h (fun k=>k=b∨s.a=some ⟨k,0,none⟩) (zGe h b s (zF0 c.segments.l to f (l0 ++ [a]) r.l))
 | 0,l0,a,r,s,h,hc,hr,Y,ac,aa,aw,az,aj=>by
  have:=zF4 hC ac (fun x d=>by rw [zEm];exact aa x d)
  omega
 | f+1,l0,a,r,s,h,hc,hr,Y,ac,aa,aw,az,aj=>by
  have ak:=hc
  have a7:=hr
  replace hc:jD h c:=jL zFW hc
  replace hr:r.Ok h:=hr.mono zFW
  have al:c.segments.l.length≤10:=by rw [← zCd];exact zF3 hC
  have h8:=zF4 hC ac (fun x d=>by rw [zEm];exact aa x d)
  have bp:c.points.l.length≤8:=by rw [← zEm];exact (zEk hC).1
  have ha:=aa a (yb _ (List.mem_singleton.2 rfl))
  have wl:=Y.lds
  have ab:(l0 ++ [a]).getLast?.getD 0=a:=by rw [List.getLast?_concat];rfl
  refine zlK (fun A W=>by simp) Tryz.func275 rfl rfl (by simp)  (fun k j=>by
   rcases j with rfl|j
   ·rw [Y.1];exact fun e=>by cases e
   ·exact Y.2.1.mem j) fun W0 N=>?_
  have am:∀ g,(g=b∨s.a=some ⟨g,0,none⟩)→h g=none∨W0.own g:=fun g t=>.inr (N g t)
  repeat' first|refine Wa ?_|(simp only [go_sem,jq,jj,jy,jv,jk,jx,zGa,zGb,JA];try rfl)|refine Wb ?_|fail
  refine zc9 rfl (fun d=>?_) (fun d=>?_)
  ·have d:a=to:=eq_of_beq d
   have hF:zF0 c.segments.l to (f+1) (l0 ++ [a]) r.l=[r.l]:=by rw [zF0,if_pos (by rw [ab];exact d)]
   rw [hF]
   have bn:0 < 10 ^ (f+1):=Nat.pow_pos (by decide)
   refine Wk ?_
   refine zz5 rfl ?_
   refine U_t [0,1,4,2,3] rfl ?_
   try simp only [go_sem,jq,jj,jy,jv,jk,jx,wl,true_or,JA,JB,Jg]
   refine U_1 5 0 [3,2] rfl rfl ?_
   try simp only [go_sem,jq,jj,jy,jv,jk,jx,wl,true_or,JA,JB,Jg]
   refine zkr (zF8 r _ hr (by omega)) rfl ?_
   rintro v h1 O ⟨q,rfl,n,Rq,fq⟩
   obtain ⟨W1,a8⟩:=Y.grow O
   have ae:=W1.lds
   have q1:q.Ok (zFV h1 b s):=(Y.beside O Rq fq).ok (by decide) fun x d=>hr.2.2.2.1 x (by rw [← n];exact d)
   try simp only [go_sem,jq,jj,jy,jv,jk,jx,ae,true_or,JA,JB,Jg]
   refine U_1 6 0 [3,2] rfl rfl ?_
   try simp only [go_sem,jq,jj,jy,jv,jk,jx,ae,true_or,JA,JB,Jg]
   refine U_1 7 3 [] rfl rfl ?_
   try simp only [go_sem,jq,jj,jy,jv,jk,jx,ae,true_or,JA,JB,Jg]
   refine zD6 (s:=s) rfl W1.2.1 (fun g t=>am g (.inr t)) ?_
   try simp only [go_sem,jq,jj,jy,jv,jk,jx]
   refine ⟨rfl,by simp only [maxLen];omega,by omega,fun z cap h2 P=>?_⟩
   have P':Pub (zD4 h1 s) 35 (wA (Sl Int)) (s.l ++ [q]).length ((s.l ++ [q]).flatMap qx) z cap h2:=by
    rw [jP,jF];exact P
   obtain ⟨b2,Z,G,ag⟩:=W1.push q1 P'
   try simp only [go_sem,jq,jj,jy,jv,jk,jx,true_or,JA]
   refine U_t [8] rfl ?_
   try simp only [go_sem,jq,jj,jy,jv,jk,jx,ae,true_or,JA,JB,Jg]
   refine U_1 9 1 [] rfl rfl ?_
   try simp only [go_sem,jq,jj,jy,jv,jk,jx,ae,true_or,JA,JB,Jg]
   refine zl5 (by simp only [go_sem]) (by simp only [go_sem]) rfl rfl b2 (am b (.inl rfl)) (by simp) ?_
   try simp only [go_sem,jq,jj,jy,jv,jk,jx]
   refine U_d ?_
   refine Wk ?_
   rw [show (Sl.mk z cap (s.l ++ [q])).val=.slice z (s.l.length+1) cap from by simp only [Sl.val,jP,jg]] at Z G
   rw [zFY]
   refine ⟨_,?_,Z,fun g t=>?_,jB a8 G⟩
   ·rw [qB];simp only [wx,yD,n]
   ·rcases ag g t with e|e
    ·exact .inl (znR O e)
    ·exact .inr e
  have d:¬ a=to:=ne_of_beq_false d
  have hF:zF0 c.segments.l to (f+1) (l0 ++ [a]) r.l=(wg c.segments.l.length).flatMap (wkAt (zF0 c.segments.l to f) c.segments.l (l0 ++ [a]) r.l):=by rw [zF0,if_neg (by rw [ab];exact d)]
  rw [hF]
  have au:=ha.1
  have bd:a < ((8:Nat):Int):=by omega
  have bf:a.toNat≤7:=by omega
  have bg:a.toNat < 8:=by omega
  have bh:=zES (l:=l0) (x:=a) ⟨au,by omega⟩
  refine zc5 ?_
  refine Evs ?_
  repeat' first|refine Wa ?_|(simp only [go_sem,jq,jj,jy,jv,jk,jx,au,bd,bf,bg,bh,zER,zGb,jb,wy,Jg,JA];try rfl)|refine Wb ?_|fail
  refine zFU (ι:=Nat × Hp × Sl (Sl Int)) (fun i=>⟨[(1,true,.c (.v (.int .i64 a))),(2,true,.c (.v (.int .i64 to))),(3,true,.c (.v r.val)),(5,true,.c (.v (.pointer (some ⟨b,0,none⟩)))),(6,true,.c (.p 0 0)),(10,true,.c (.p 1 0)),(30,true,.c (.v c.segments.val)),(31,true,.c (.v (.int .i64 c.segments.l.length))),(32,true,.c (.v (.int .i64 i.1)))],[(0,.box 57 [.v c.points.val,.v c.segments.val]),(1,.box 323 (metC (l0 ++ [a])))],i.2.1,2⟩)
   (fun i=>i.1≤c.segments.l.length∧WB 280 35 i.2.1 b i.2.2∧(∀ g,i.2.2.a=some ⟨g,0,none⟩→h g=none∨s.a=some ⟨g,0,none⟩)∧(zFV h b s).le (zFV i.2.1 b i.2.2)∧i.2.2.l.map (·.l)=s.l.map (·.l) ++ (wg i.1).flatMap (wkAt (zF0 c.segments.l to f) c.segments.l (l0 ++ [a]) r.l)) (fun i=>c.segments.l.length - i.1) (0,h,s) ⟨jC _,Y,fun g t=>.inr t,wW _,by simp⟩ [0,1] ?_ ?_
  ·refine Evs ?_
   exact Gk
  rintro ⟨i,j,o⟩ ⟨hi,w,J,D,hl⟩
  simp only at hi w J D hl
  have Q:(zFV h b s).le j:=jB D zFW
  have an:jD j c:=jL Q ak
  have ai:=a7.mono Q
  have wk:=w.lds
  have ao:∀ g,j g=none→h g=none∨W0.own g:=fun g t=>by
   by_cases K:g=b
   ·exact .inr (N g (.inl K))
   by_cases e2:s.a=some ⟨g,0,none⟩
   ·exact .inr (N g (.inr e2))
   left
   cases hh:h g with
   | none=>rfl
   | some M =>
    have h5:zFV h b s g=some M:=by rw [zFX Y.2.1 K e2];exact hh
    rw [Q g M h5] at t;cases t
  refine Wk ?_
  refine zc9 rfl (fun hd=>?_) (fun hd=>?_)
  ·have m:=zjH hd
   have ax:(i:Int) < c.segments.l.length:=by omega
   obtain ⟨y,ap⟩:∃ y,zEf c.segments.l[i] a=y:=⟨_,rfl⟩
   have bi:zFZ c.segments.l (l0 ++ [a]) i=y:=by rw [zFZ,gget m,ab,ap]
   have av:y < c.points.l.length:=by
    have:=(zEl hC (i:=i) (by rw [zCd];exact m) a).1
    rw [zCd,zEm,gget m,ap] at this
    exact this
   have R:wkAt (zF0 c.segments.l to f) c.segments.l (l0 ++ [a]) r.l i=if 0≤y∧y ∉ l0 ++ [a] then zF0 c.segments.l to f (l0 ++ [a] ++ [y]) (r.l ++ [(i:Int)]) else []:=by rw [wkAt,bi]
   repeat' first|refine Wa ?_|refine zhF (fun _=>zEn c.segments.l[i] a _) ?_|(simp only [go_sem,jq,jj,jy,jv,jk,jx,zlh an.2 m,an.2.some m,zm7 an.2 m,m,ax,jW,jY,Jg,JA,JB,JC];try rfl)|refine Wb ?_|fail
   rw [ap]
   by_cases hy:0≤y
   case neg =>
    rw [if_neg (fun H=>hy H.1)] at R
    repeat' first|refine Wa ?_|(simp only [go_sem,jq,jj,jy,jv,jk,jx,eq_false hy,reduceCtorEq,decide_true,decide_false,wj,wq,yw,wa,qc,qp,qW,false_implies,Jg,JA];try rfl)|refine Wb ?_|fail
    refine zc9 rfl (fun F=>?_) (fun F=>?_)
    ·cases F
    refine Wk ?_
    refine ⟨(i+1,j,o),[0,1],⟨m,w,J,D,by rw [hl,zEF,R,yJ]⟩,by simp only;omega,?_⟩
    refine Evs ?_
    exact Gi (zjA m (by omega))
   have bj:y < ((8:Nat):Int):=by omega
   have bk:y.toNat≤7:=by omega
   have bl:y.toNat < 8:=by omega
   have bm:=zET (l:=l0 ++ [a]) (x:=y) ⟨hy,by omega⟩
   repeat' first|refine Wa ?_|(simp only [go_sem,jq,jj,jy,jv,jk,jx,eq_true hy,reduceCtorEq,bj,bk,bl,bm,zER,jb,wy,decide_true,decide_false,wj,wq,yw,wa,qp,qW,false_implies,Jg,JA];try rfl)|refine Wb ?_|fail
   refine zc9 rfl (fun F=>?_) (fun F=>?_)
   case refine_2 =>
    have F:y ∈ l0 ++ [a]:=JE (by rw [jf] at F;exact F)
    rw [if_neg (fun H=>H.2 F)] at R
    refine Wk ?_
    refine ⟨(i+1,j,o),[0,1],⟨m,w,J,D,by rw [hl,zEF,R,yJ]⟩,by simp only;omega,?_⟩
    refine Evs ?_
    exact Gi (zjA m (by omega))
   have F:y ∉ l0 ++ [a]:=JF (by rw [jd] at F;exact F)
   rw [if_pos ⟨hy,F⟩] at R
   refine Wk ?_
   refine zz5 rfl ?_
   refine U_t [0,1,2,3,5,8,9] rfl ?_
   simp only [go_sem,jq,jj,jy,jv,jk,jx,zGc,zF9,zER,qV,Jg,JA]
   refine U_m 4 [6] ⟨?_,?_,trivial⟩
   ·refine U_b 4 0 [8,0] rfl rfl ?_
    refine Evs ?_
    refine zkr (zF8 r _ ai (by omega)) rfl ?_
    rintro v h1 O ⟨q,rfl,n,Rq,fq⟩
    simp only [go_sem,jq,jj,jy,jv,jk,jx,zGc,zF9,zER,qV,Jg,JA]
    refine U_1 6 0 [8,0] rfl rfl ?_
    simp only [go_sem,jq,jj,jy,jv,jk,jx,zGc,zF9,zER,qV,Jg,JA]
    refine U_1 7 3 [8,0] rfl rfl ?_
    try simp only [go_sem,jq,jj,jy,jv,jk,jx]
    refine zD6 (s:=q) rfl Rq (fun g t=>ao g (fq g t)) ?_
    try simp only [go_sem,jq,jj,jy,jv,jk,jx]
    refine ⟨rfl,by rw [n];simp only [maxLen];omega,by rw [n];omega,fun z cap h2 P=>?_⟩
    have P':Pub (zD4 h1 q) 3 (wA Int) (q.l ++ [(i:Int)]).length ((q.l ++ [(i:Int)]).flatMap qx) z cap h2:=by
     rw [jP,jF];exact P
    obtain ⟨X,ag⟩:=pubF (l:=q.l ++ [(i:Int)]) Rq O fq P'
    obtain ⟨R2,-,-⟩:=P'.row
    obtain ⟨Z,G⟩:=w.grow X
    have k2:(Sl.mk z cap (q.l ++ [(i:Int)])).Ok (zFV h2 b o):=(w.beside X R2 ag).ok (by decide) fun x d=>by
     rcases List.mem_append.1 d with d|d
     ·exact ai.2.2.2.1 x (by rw [← n];exact d)
     ·rw [List.mem_singleton.1 d];show I64 _;unfold I64;omega
    rw [show Value.slice z (q.l.length+1) cap=(Sl.mk z cap (q.l ++ [(i:Int)])).val from by simp only [Sl.val,jP,jg]]
    try simp only [go_sem,jq,jj,jy,jv,jk,jx,zGc,zF9,zER,qV,Jg,JA]
    refine U_1 10 1 [] rfl rfl ?_
    try simp only [go_sem,jq,jj,jy,jv,jk,jx,zGd]
    have ah:o.l.length+10 ^ f≤2000000000:=by
     have K:=congrArg ud hl
     rw [jH,jP,jH] at K
     have e2:=zF2 (to:=to) al (f:=f) (k:=i) (pts:=l0 ++ [a]) (r:=r.l) (by omega)
     have e3:(i+1) * 10 ^ f≤10 * 10 ^ f:=wP _ (by omega)
     rw [yP,JQ] at e3
     rw [Nat.pow_succ] at aj
     omega
    refine ⟨rfl,?_⟩
    refine zlL (zGf c hC to b f (l0 ++ [a]) y (Sl.mk z cap (q.l ++ [(i:Int)])) o h2 (jL (jB D G) ak) k2 Z (by rw [yE];exact ⟨ac,by simp,fun u hu v hv e=>by rw [List.mem_singleton.1 hv] at e;rw [e] at hu;exact F hu⟩) (fun x d=>by
     rcases List.mem_append.1 d with d|d
     ·exact aa x d
     ·rw [List.mem_singleton.1 d];exact ⟨hy,av⟩) (by rw [jP,jg];omega) (by rw [jP,jP,jg,jg,n];omega) ah) rfl (fun k j=>?_) ?_
    ·rcases j with rfl|j
     ·exact ⟨(by rw [Z.1];exact fun e=>(by cases e)),.inr (N _ (.inl rfl))⟩
     ·exact ⟨Z.2.1.mem j,(J k j).imp id (fun e=>N k (.inr e))⟩
    rintro v h4 kp ⟨s4,aq,W4,f4,l4⟩
    try simp only [go_sem,jq,jj,jy,jv,jk,jx]
    refine U_d ?_
    refine Wk ?_
    refine ⟨(i+1,h4,s4),[0,1],⟨m,W4,fun g t=>?_,jB D (jB G l4),?_⟩,by simp only;omega,?_⟩
    ·rcases f4 g t with e|e
     ·have e0:j g=none:=by
       cases hh:j g with
       | none=>rfl
       | some M=>rw [X g M hh] at e;cases e
      by_cases K:g=b
      ·rw [K,w.1] at e0;cases e0
      by_cases e2:s.a=some ⟨g,0,none⟩
      ·exact .inr e2
      left
      cases hh:h g with
      | none=>rfl
      | some M =>
       have h5:zFV h b s g=some M:=by rw [zFX Y.2.1 K e2];exact hh
       rw [Q g M h5] at e0;cases e0
     ·exact J g e
    ·rw [aq,hl,zEF,R,n,yx]
    try simp only [go_sem,jq,jj,jy,jv,jk,jx]
    exact Gi (zjA m (by omega))
   ·refine U_b 6 0 [8,0] rfl rfl ?_
    simp only [go_sem,jq,jj,jy,jv,jk,jx,zGc,zF9,zER,qV,Jg,JA]
    refine U_1 4 0 [8,0] rfl rfl ?_
    refine Evs ?_
    refine zkr (zF8 r _ ai (by omega)) rfl ?_
    rintro v h1 O ⟨q,rfl,n,Rq,fq⟩
    simp only [go_sem,jq,jj,jy,jv,jk,jx,zGc,zF9,zER,qV,Jg,JA]
    refine U_1 7 3 [8,0] rfl rfl ?_
    try simp only [go_sem,jq,jj,jy,jv,jk,jx]
    refine zD6 (s:=q) rfl Rq (fun g t=>ao g (fq g t)) ?_
    try simp only [go_sem,jq,jj,jy,jv,jk,jx]
    refine ⟨rfl,by rw [n];simp only [maxLen];omega,by rw [n];omega,fun z cap h2 P=>?_⟩
    have P':Pub (zD4 h1 q) 3 (wA Int) (q.l ++ [(i:Int)]).length ((q.l ++ [(i:Int)]).flatMap qx) z cap h2:=by
     rw [jP,jF];exact P
    obtain ⟨X,ag⟩:=pubF (l:=q.l ++ [(i:Int)]) Rq O fq P'
    obtain ⟨R2,-,-⟩:=P'.row
    obtain ⟨Z,G⟩:=w.grow X
    have k2:(Sl.mk z cap (q.l ++ [(i:Int)])).Ok (zFV h2 b o):=(w.beside X R2 ag).ok (by decide) fun x d=>by
     rcases List.mem_append.1 d with d|d
     ·exact ai.2.2.2.1 x (by rw [← n];exact d)
     ·rw [List.mem_singleton.1 d];show I64 _;unfold I64;omega
    rw [show Value.slice z (q.l.length+1) cap=(Sl.mk z cap (q.l ++ [(i:Int)])).val from by simp only [Sl.val,jP,jg]]
    try simp only [go_sem,jq,jj,jy,jv,jk,jx,zGc,zF9,zER,qV,Jg,JA]
    refine U_1 10 1 [] rfl rfl ?_
    try simp only [go_sem,jq,jj,jy,jv,jk,jx,zGd]
    have ah:o.l.length+10 ^ f≤2000000000:=by
     have K:=congrArg ud hl
     rw [jH,jP,jH] at K
     have e2:=zF2 (to:=to) al (f:=f) (k:=i) (pts:=l0 ++ [a]) (r:=r.l) (by omega)
     have e3:(i+1) * 10 ^ f≤10 * 10 ^ f:=wP _ (by omega)
     rw [yP,JQ] at e3
     rw [Nat.pow_succ] at aj
     omega
    refine ⟨rfl,?_⟩
    refine zlL (zGf c hC to b f (l0 ++ [a]) y (Sl.mk z cap (q.l ++ [(i:Int)])) o h2 (jL (jB D G) ak) k2 Z (by rw [yE];exact ⟨ac,by simp,fun u hu v hv e=>by rw [List.mem_singleton.1 hv] at e;rw [e] at hu;exact F hu⟩) (fun x d=>by
     rcases List.mem_append.1 d with d|d
     ·exact aa x d
     ·rw [List.mem_singleton.1 d];exact ⟨hy,av⟩) (by rw [jP,jg];omega) (by rw [jP,jP,jg,jg,n];omega) ah) rfl (fun k j=>?_) ?_
    ·rcases j with rfl|j
     ·exact ⟨(by rw [Z.1];exact fun e=>(by cases e)),.inr (N _ (.inl rfl))⟩
     ·exact ⟨Z.2.1.mem j,(J k j).imp id (fun e=>N k (.inr e))⟩
    rintro v h4 kp ⟨s4,aq,W4,f4,l4⟩
    try simp only [go_sem,jq,jj,jy,jv,jk,jx]
    refine U_d ?_
    refine Wk ?_
    refine ⟨(i+1,h4,s4),[0,1],⟨m,W4,fun g t=>?_,jB D (jB G l4),?_⟩,by simp only;omega,?_⟩
    ·rcases f4 g t with e|e
     ·have e0:j g=none:=by
       cases hh:j g with
       | none=>rfl
       | some M=>rw [X g M hh] at e;cases e
      by_cases K:g=b
      ·rw [K,w.1] at e0;cases e0
      by_cases e2:s.a=some ⟨g,0,none⟩
      ·exact .inr e2
      left
      cases hh:h g with
      | none=>rfl
      | some M =>
       have h5:zFV h b s g=some M:=by rw [zFX Y.2.1 K e2];exact hh
       rw [Q g M h5] at e0;cases e0
     ·exact J g e
    ·rw [aq,hl,zEF,R,n,yx]
    try simp only [go_sem,jq,jj,jy,jv,jk,jx]
    exact Gi (zjA m (by omega))
  ·have bq:=zjI hd
   obtain rfl:i=c.segments.l.length:=by omega
   refine Wk ?_
   exact ⟨o,hl,w,J,D⟩
def rtIn (c:PChart) (a b:Int):Bool:=zBp c && decide (0≤a∧a < c.points.length) && decide (0≤b∧b < c.points.length)
def zGg (c:PChart) (a b:Int):List (List Int):=if rtIn c a b=true then zF0 c.segments b 8 [a] [] else []
theorem zGh {c:PChart} {a b:Int} (h:rtIn c a b=false):zGg c a b=[]:=by rw [zGg,if_neg (by rw [h];exact qa)]
theorem zGi {g:List DSegment} {to:Int}:∀ {f:Nat} {pts r:List Int},∀ x ∈ zF0 g to f pts r,x.length≤r.length+f
 | 0,_,_,x,a=>by cases a
 | f+1,pts,r,x,a=>by
  unfold zF0 at a
  split at a
  ·rw [List.mem_singleton.1 a];omega
  ·obtain ⟨i,_,a⟩:=List.mem_flatMap.1 a
   unfold wkAt at a
   split at a
   ·have:=zGi x a
    rw [jP,jg] at this
    omega
   ·cases a
theorem zGj {c:PChart} {a b:Int}:∀ x ∈ zGg c a b,x.length≤8:=fun x d=>by
 rw [zGg] at d
 split at d
 ·have:=zGi x d;simpa using this
 ·cases d
def zGk (m:List Int→Int) (acc:Option (List Int)) (r:List Int):Option (List Int):=match acc with
 | none=>some r
 | some x=>if m r < m x then some r else some x
def zGl (c:PChart) (a b:Int):Option (List Int):=(zGg c a b).foldl (zGk (zFa c)) none
theorem zGm {m:List Int→Int} {l0:List (List Int)}:∀ {l:List (List Int)} {acc:Option (List Int)} {x:List Int},(∀ y,acc=some y→y ∈ l0)→(∀ y ∈ l,y ∈ l0)→l.foldl (zGk m) acc=some x→x ∈ l0
 | [],acc,x,b,h2,h=>b x h
 | r :: l,acc,x,b,h2,h=>by
  refine zGm (l:=l) (acc:=zGk m acc r) (fun y a=>?_) (fun y a=>h2 y (qg _ a)) h
  unfold zGk at a
  split at a
  ·cases a;exact h2 _ (qC ..)
  ·rename_i z
   split at a
   ·cases a;exact h2 _ (qC ..)
   ·cases a;exact b _ rfl
theorem zGn {c:PChart} {a b:Int} {x:List Int} (h:zGl c a b=some x):x.length≤8:=zGj x (zGm (acc:=none) (fun y d=>by cases d) (fun y d=>d) h)
theorem zGo {a:Int}:([a]:List Int).Nodup:=by simp
theorem zGp (c:DChart) (a b:Int) (h:Hp) (p:jD h c) (y:I64 a):Ct jV 228 [c.v,.int .i64 a,.int .i64 b] h fun v h'=>∃ s:Sl (Sl Int),v=s.val∧s.l.map (·.l)=zGg (jK c) a b∧s.Ok h':=by
 have M:=p.1.max
 have n:(jK c).points=c.points.l:=zEm c
 refine zdn (fun A W=>by simp) Tryz.func228 rfl rfl (by simp) fun W0=>?_
 repeat' first|refine Wa ?_|refine zhF (fun _=>zBx c _ p) ?_|refine zhF (fun _=>zAA _ _ _ _) ?_|(simp only [go_sem,jq,jj,jy,jv,jk,jx];try rfl)|refine Wb ?_|fail
 rw [zjz (by omega)]
 refine zc9 rfl (fun d=>?_) (fun d=>?_)
 ·rw [zGh (by
   rw [rtIn,n]
   simp only [jQ,jd,qA,JH] at d ⊢
   rcases d with (d|d)|d
   ·exact .inl (.inl d)
   ·exact .inl (.inr (by omega))
   ·exact .inr (by omega))]
  refine Wk ?_
  exact ⟨⟨none,0,[]⟩,rfl,rfl,znE⟩
 simp only [jp,jf,jJ,JD] at d
 obtain ⟨⟨r,N,O⟩,Q,R⟩:=d
 have t:rtIn (jK c) a b=true:=by
  simp only [rtIn,r,n,qp,jJ,JD];omega
 rw [zGg,if_pos t,zCd]
 refine zc5 ?_
 refine Evs ?_
 first|refine zzr [0,0,2,0,2,1,0] rfl ?_|refine zzq [0,0,2,0,2,1,0] rfl ?_|(refine zc3 ?_;first|refine zzr [0,0,2,0,2,1,0] rfl ?_|refine zzq [0,0,2,0,2,1,0] rfl ?_)
 try simp only [go_sem,jq,jj,jy,jv,jk,jx]
 intro g e q z
 have i:Pub h 3 (wA Int) ([a]:List Int).length (([a]:List Int).flatMap qx) g e q:=z
 try simp only [go_sem,jq,jj,jy,jv,jk,jx]
 intro j f h2 D
 have o:Pub q 35 (wA (Sl Int)) ([]:List (Sl Int)).length (([]:List (Sl Int)).flatMap qx) j f h2:=D
 obtain ⟨u,F,Y⟩:=o.row
 have G:WS 35 h2 (Sl.mk j f ([]:List (Sl Int))):=⟨u,fun x d=>by cases d⟩
 have m:=o.drop (l:=([]:List (Sl Int)))
 have H:(Sl.mk g e [a]).Ok q:=Pub.sl (by decide) i (fun x d=>by rw [List.mem_singleton.1 d];exact y)
 try simp only [go_sem,jq,jj,jy,jv,jk,jx]
 refine zlL (zF7 c r b 8 (Sl.mk g e [a]) (Sl.mk none 0 []) (Sl.mk j f []) h2 (by rw [m];exact jL i.le p) (by rw [m];exact H) (by rw [m];exact znE) G (by simp) zGo (fun x d=>by rw [List.mem_singleton.1 d];omega) rfl (jC _) (by show 0+10 ^ 8≤2000000000;decide)) rfl (fun k w=>⟨u.mem w,.inl (znR i.le (F k w))⟩) ?_
 rintro v Z kp ⟨s,rfl,J,K,fs,X⟩
 refine Evs ?_
 refine Wk ?_
 exact ⟨s,rfl,by rw [J];rfl,K.ok (by decide)⟩
theorem zGq (c:DChart) (a b:Int) (h:Hp) (w:jD h c) (ha:I64 a):Ct jV 234 [c.v,.int .i64 a,.int .i64 b] h fun v h'=>∃ s:Sl (Sl Int),v=s.val∧s.l.map (·.l)=zGg (jK c) a b∧s.Ok h':=by
 have O:=w.1.max
 have u:(jK c).points=c.points.l:=zEm c
 refine zdn (fun A W=>by simp) Tryz.func234 rfl rfl (by simp) fun W0=>?_
 repeat' first|refine Wa ?_|refine zhF (fun _=>zBy c _ w) ?_|refine zhF (fun _=>zAD _ _ _) ?_|(simp only [go_sem,jq,jj,jy,jv,jk,jx];try rfl)|refine Wb ?_|fail
 refine zc9 rfl (fun d=>?_) (fun d=>?_)
 ·rw [zGh (by
   rw [rtIn,u]
   simp only [jQ,jd,qA,JH] at d ⊢
   rcases d with (d|d)|d
   ·exact .inl (.inl d)
   ·exact .inl (.inr (by omega))
   ·exact .inr (by omega))]
  refine Wk ?_
  exact ⟨⟨none,0,[]⟩,rfl,rfl,znE⟩
 simp only [jp,jf,jJ,JD] at d
 obtain ⟨⟨G,Q,R⟩,X,Y⟩:=d
 have H:rtIn (jK c) a b=true:=by
  simp only [rtIn,G,u,qp,jJ,JD];omega
 rw [zGg,if_pos H,zCd]
 refine zc5 ?_
 refine Evs ?_
 refine zc3 ?_
 refine zc4 rfl ?_
 refine Evs ?_
 refine zD5 1 ([]:List (Sl Int)) rfl rfl rfl rfl fun f j y J r t k1=>?_
 refine Evs ?_
 refine zze 2 rfl rfl fun g m n=>?_
 have t:h.le j:=t
 have m:j g=none:=m
 have r:∀ g,f.a=some ⟨g,0,none⟩→h g=none:=r
 have n:W0.own g:=n
 refine Evs ?_
 have Z:zD4 j f g=none:=by
  cases M:zD4 j f g with
  | none=>rfl
  | some o=>have:=zEA g o M;rw [m] at this;cases this
 have z:j.le (j.ins g (.cells #[f.val] 280 (0,0))):=Hp.ins_le m
 have p:f.a ≠ some ⟨g,0,none⟩:=fun e=>J.mem e m
 have q:WB 280 35 (j.ins g (.cells #[f.val] 280 (0,0))) g f :=
  ⟨qD,J.keep fun g' K=>JJ (fun e=>by subst e;exact p K),p,fun x d=>by rw [y] at d;cases d⟩
 have D:h.le (zFV (j.ins g (.cells #[f.val] 280 (0,0))) g f):=fun k o i=>by
  rw [zFX q.2.1 (fun e=>by subst e;rw [t _ o i] at m;cases m) (fun e=>by rw [r k e] at i;cases i)]
  exact z k o (t k o i)
 first|refine zzr [0,0,0,0,1] rfl ?_|refine zzq [0,0,0,0,1] rfl ?_|(refine zc3 ?_;first|refine zzr [0,0,0,0,1] rfl ?_|refine zzq [0,0,0,0,1] rfl ?_)
 refine Evs ?_
 refine zlL (zGf c G b g 8 [] a (Sl.mk none 0 []) f _ (jL D w) znE q zGo (fun x d=>by rw [List.mem_singleton.1 d];omega) rfl (jC _) (by rw [y];show 0+10 ^ 8≤2000000000;decide)) rfl (fun k i=>?_) ?_
 ·rcases i with rfl|i
  ·exact ⟨(by rw [qD];exact fun e=>(by cases e)),.inr n⟩
  ·exact ⟨q.2.1.mem i,.inl (r k i)⟩
 rintro v h4 kp ⟨s,N,F,fs,aa⟩
 try simp only [go_sem,jq,jj,jy,jv,jk,jx]
 repeat' first|refine Wa ?_|(simp only [go_sem,jq,jj,jy,jv,jk,jx,F.lds];try rfl)|refine Wb ?_|fail
 exact ⟨s,rfl,by rw [N,y];rfl,F.2.1.ok (by decide) fun x d=>jL zFW (F.2.2.2 x d)⟩
theorem zGr {m:List Int→Int} {l:List (Sl Int)} {k:Nat} (a:k < l.length):((l.take (k+1)).map (·.l)).foldl (zGk m) none=zGk m (((l.take k).map (·.l)).foldl (zGk m) none) l[k].l:=by
 rw [qw a,qB,yp];rfl
set_option maxRecDepth 20000 in
theorem zGs (c:DChart) (a b:Int) (h:Hp) (K:jD h c) (M:I64 a):Ct jV 164 [c.v,.int .i64 a,.int .i64 b] h fun v h'=>∃ s:Sl Int,v=.tuple #[s.val,.bool (zGl (jK c) a b).isSome]∧s.l=(zGl (jK c) a b).getD []∧s.Ok h':=by
 refine zdn (fun A W=>by simp) Tryz.func164 rfl rfl (by simp) fun W0=>?_
 (first|refine zie rfl ?_|refine zc4 rfl ?_|(refine zc3 ?_;first|refine zie rfl ?_|refine zc4 rfl ?_));simp only [go_sem,jq,jj,jy,jv,jk,jx]
 (first|refine zie rfl ?_|refine zc4 rfl ?_|(refine zc3 ?_;first|refine zie rfl ?_|refine zc4 rfl ?_));simp only [go_sem,jq,jj,jy,jv,jk,jx]
 (first|refine zie rfl ?_|refine zc4 rfl ?_|(refine zc3 ?_;first|refine zie rfl ?_|refine zc4 rfl ?_));simp only [go_sem,jq,jj,jy,jv,jk,jx]
 refine zD5 1 ([]:List Int) rfl rfl rfl rfl fun G D N O Y u Z=>?_
 have u:h.le D:=u
 have w:jD D c:=jL u K
 have H:G.Ok D:=O.ok (by decide) fun x J=>by rw [N] at J;cases J
 refine Wk ?_
 refine zkr (zGp c a b _ w M) rfl ?_
 rintro v h2 o ⟨r,rfl,Q,f⟩
 have y:jD h2 c:=jL o w
 have l2:h.le h2:=jB u o
 have hl:=f.max
 refine Wk ?_
 refine zng (ι:=Nat × Sl Int) (fun i=>⟨[(3,true,.c (.p 0 0)),(6,true,.c (.v (.slice none 0 0))),(7,true,.c (.v (.bool false))),(8,true,.c (.v i.2.val)),(9,true,.c (.v (.bool (decide (0 < i.1))))),(16,true,.c (.v r.val)),(17,true,.c (.v (.int .i64 r.l.length))),(18,true,.c (.v (.int .i64 i.1)))],[(0,.box 57 [.v c.points.val,.v c.segments.val])],h2,1⟩) (fun i=>i.1≤r.l.length∧i.2.Ok h2∧((r.l.take i.1).map (·.l)).foldl (zGk (zFa (jK c))) none=if 0 < i.1 then some i.2.l else none) (fun i=>r.l.length - i.1) (0,G) ⟨jC _,H.mono o,rfl⟩ [0] ?_ ?_
 ·refine Evs ?_
  exact Gk
 rintro ⟨k,q⟩ ⟨R,n,j⟩
 simp only at R n j
 refine Wk ?_
 refine zc9 rfl (fun F=>?_) (fun F=>?_)
 ·have d:=zjH F
  have z:=f.el d
  have t:=zGr (m:=zFa (jK c)) d
  rw [j] at t
  repeat' first|refine Wa ?_|(simp only [go_sem,jq,jj,jy,jv,jk,jx,zkQ f d,f.some d,d,jW,jY];try rfl)|refine Wb ?_|fail
  refine zz5 rfl ?_
  refine U_t [0,1,2,3,4,6,7] rfl ?_
  simp only [go_sem,jq,jj,jy,jv,jk,jx,zkQ f d,f.some d,d,jW,jY]
  refine U_1 5 0 [6] rfl rfl ?_
  simp only [go_sem,jq,jj,jy,jv,jk,jx,zkQ f d,f.some d,d,jW,jY]
  refine zhF (fun _=>zFd c r.l[k] _ y z) ?_
  simp only [go_sem,jq,jj,jy,jv,jk,jx,zkQ f d,f.some d,d,jW,jY]
  refine U_1 8 0 [] rfl rfl ?_
  simp only [go_sem,jq,jj,jy,jv,jk,jx,zkQ f d,f.some d,d,jW,jY]
  refine zhF (fun _=>zFd c q _ y n) ?_
  simp only [go_sem,jq,jj,jy,jv,jk,jx,zkQ f d,f.some d,d,jW,jY]
  refine U_t [9,10] rfl ?_
  simp only [go_sem,jq,jj,jy,jv,jk,jx,zkQ f d,f.some d,d,jW,jY]
  refine U_d ?_
  refine Wk ?_
  refine zc9 rfl (fun g=>?_) (fun g=>?_)
  ·refine Wk ?_
   refine ⟨(k+1,r.l[k]),[0],⟨d,z,?_⟩,by simp only;omega,?_⟩
   ·rw [t,if_pos (Nat.succ_pos k)]
    by_cases h0:0 < k
    ·rw [if_pos h0]
     rw [JG h0] at g
     have g:zFa (jK c) r.l[k].l < zFa (jK c) q.l:=JE (by rw [wj,wa] at g;exact g)
     show (if _ then _ else _)=_
     rw [if_pos g]
    ·rw [if_neg h0];rfl
   refine Evs ?_
   try rw [JG (Nat.succ_pos k)]
   exact Gi (zjA d (by omega))
  ·have h0:0 < k:=by
    rcases we k with e|e
    ·rw [decide_eq_false (show ¬ 0 < k by omega)] at g;cases g
    ·exact e
   refine Wk ?_
   refine ⟨(k+1,q),[0],⟨d,n,?_⟩,by simp only;omega,?_⟩
   ·rw [t,if_pos (Nat.succ_pos k),if_pos h0]
    rw [JG h0] at g
    have g:¬ zFa (jK c) r.l[k].l < zFa (jK c) q.l:=JF (by rw [wj,wa] at g;exact g)
    show (if _ then _ else _)=_
    rw [if_neg g]
   refine Evs ?_
   try rw [JG (Nat.succ_pos k)]
   try rw [JG h0]
   exact Gi (zjA d (by omega))
 ·have X:=zjI F
  obtain rfl:k=r.l.length:=by omega
  rw [qG,Q] at j
  have j:zGl (jK c) a b=_:=j
  refine Wk ?_
  refine zc9 rfl (fun g=>?_) (fun g=>?_)
  ·refine Wk ?_
   rw [j,if_neg (by simpa using g)]
   exact ⟨⟨none,0,[]⟩,rfl,rfl,znE⟩
  ·refine Wk ?_
   rw [j,if_pos (by simpa using g)]
   exact ⟨q,rfl,rfl,n⟩
theorem zGt (c:DChart) (a b:Int) (h:Hp) (y:jD h c) (H:I64 a):Ct jV 168 [c.v,.int .i64 a,.int .i64 b] h fun v h'=>∃ s:Sl Int,v=.tuple #[s.val,.bool (zGl (jK c) a b).isSome]∧s.l=(zGl (jK c) a b).getD []∧s.Ok h':=by
 refine zdn (fun A W=>by simp) Tryz.func168 rfl rfl (by simp) fun W0=>?_
 refine Wk ?_
 refine zkr (zGq c a b _ y H) rfl ?_
 rintro v h2 z ⟨r,rfl,D,f⟩
 have u:jD h2 c:=jL z y
 have M:=f.max
 refine Wk ?_
 refine zc9 rfl (fun g=>?_) (fun g=>?_)
 ·have g:r.l=[]:=List.length_eq_zero_iff.1 (by have:=eq_of_beq g;omega)
  have j:zGl (jK c) a b=none:=by rw [zGl,← D,g];rfl
  refine Wk ?_
  rw [j]
  exact ⟨⟨none,0,[]⟩,rfl,rfl,znE⟩
 have h0:0 < r.l.length:=by have:=ne_of_beq_false g;omega
 have F:(0:Int) < r.l.length:=by omega
 have o:=zkQ f h0
 simp only [go_sem,jA] at o
 repeat' first|refine Wa ?_|(simp only [go_sem,jq,jj,jy,jv,jk,jx,o,f.some h0,h0,F,je,jA,qF,Jg,JA,JB];try rfl)|refine Wb ?_|fail
 refine zng (ι:=Nat × Sl Int) (fun i=>⟨[(3,true,.c (.p 0 0)),(6,true,.c (.v (.slice none 0 0))),(7,true,.c (.v (.bool false))),(9,true,.c (.v i.2.val)),(22,true,.c (.v r.val)),(23,true,.c (.v (.int .i64 r.l.length))),(24,true,.c (.v (.int .i64 i.1)))],[(0,.box 57 [.v c.points.val,.v c.segments.val])],h2,1⟩) (fun i=>i.1≤r.l.length∧i.2.Ok h2∧((i.1=0∧i.2=r.l[0])∨((r.l.take i.1).map (·.l)).foldl (zGk (zFa (jK c))) none=some i.2.l)) (fun i=>r.l.length - i.1) (0,r.l[0]) ⟨jC _,f.el h0,.inl ⟨rfl,rfl⟩⟩ [0] ?_ ?_
 ·refine Evs ?_
  exact Gk
 rintro ⟨k,q⟩ ⟨J,n,j⟩
 simp only at J n j
 refine Wk ?_
 refine zc9 rfl (fun x=>?_) (fun x=>?_)
 ·have d:=zjH x
  have w:=f.el d
  have G:=zGr (m:=zFa (jK c)) d
  have t:((r.l.take (k+1)).map (·.l)).foldl (zGk (zFa (jK c))) none=if zFa (jK c) r.l[k].l < zFa (jK c) q.l then some r.l[k].l else some q.l:=by
   rw [G]
   rcases j with ⟨rfl,rfl⟩|j
   ·rw [if_neg (Int.lt_irrefl _)];rfl
   ·rw [j];rfl
  repeat' first|refine Wa ?_|(simp only [go_sem,jq,jj,jy,jv,jk,jx,zkQ f d,f.some d,d,jW,jY];try rfl)|refine Wb ?_|fail
  refine zz5 rfl ?_
  refine U_t [0,1,3,4] rfl ?_
  simp only [go_sem,jq,jj,jy,jv,jk,jx,zkQ f d,f.some d,d,jW,jY]
  refine U_1 2 0 [3] rfl rfl ?_
  simp only [go_sem,jq,jj,jy,jv,jk,jx,zkQ f d,f.some d,d,jW,jY]
  refine zhF (fun _=>zFe c r.l[k] _ u w) ?_
  simp only [go_sem,jq,jj,jy,jv,jk,jx,zkQ f d,f.some d,d,jW,jY]
  refine U_1 5 0 [] rfl rfl ?_
  simp only [go_sem,jq,jj,jy,jv,jk,jx,zkQ f d,f.some d,d,jW,jY]
  refine zhF (fun _=>zFe c q _ u n) ?_
  simp only [go_sem,jq,jj,jy,jv,jk,jx,zkQ f d,f.some d,d,jW,jY]
  refine U_t [6] rfl ?_
  simp only [go_sem,jq,jj,jy,jv,jk,jx,zkQ f d,f.some d,d,jW,jY]
  refine U_d ?_
  refine Wk ?_
  refine zc9 rfl (fun g=>?_) (fun g=>?_)
  ·have g:=JE g
   refine Wk ?_
   refine ⟨(k+1,r.l[k]),[0],⟨d,w,.inr (by rw [t,if_pos g])⟩,by simp only;omega,?_⟩
   refine Evs ?_
   exact Gi (zjA d (by omega))
  ·have g:=JF g
   refine Wk ?_
   refine ⟨(k+1,q),[0],⟨d,n,.inr (by rw [t,if_neg g])⟩,by simp only;omega,?_⟩
   refine Evs ?_
   exact Gi (zjA d (by omega))
 ·have K:=zjI x
  obtain rfl:k=r.l.length:=by omega
  have j:zGl (jK c) a b=some q.l:=by
   rcases j with ⟨e,_⟩|j
   ·omega
   ·rw [qG,D] at j;exact j
  refine Wk ?_
  rw [j]
  exact ⟨q,rfl,rfl,n⟩
theorem zGv {c:DChart} {s:DShip} {h:Hp} (b:jD h c) (i:Nat):I64 (zCa s ((jK c).segments.getD i dG)):=by
 unfold zCa
 split
 ·exact i64w _
 ·rw [zCd]
  by_cases a:i < c.segments.l.length
  ·rw [gget a];exact (b.2.el a).2.2.2
  ·rw [ja,uE (by omega)];exact i64z
def voOk (f:PForecast) (c:PChart) (s:DShip) (a:Int) (r:List Int):Bool:=zBb f && zBA s && zEZ c a r && decide (0 < r.length)
def zGw (c:PChart) (pts:List Int) (k:Nat):List Bool:=(wg k).map fun i=>(c.points.getD (pts.getD i 0).toNat dP).wait
def minL (c:PChart) (s:DShip) (r:List Int) (k:Nat):List Int:=(wg k).map fun i=>zCa s (c.segments.getD (r.getD i 0).toNat dG)
def zGx (f:PForecast) (c:PChart) (s:DShip) (r:List Int) (k:Nat):List (List DWindow):=(wg k).map fun i=>zDX f c (r.getD i 0) s
theorem zGy {β:Type} {g:Nat→β} {k:Nat}:(wg (k+1)).map g=(wg k).map g ++ [g k]:=by rw [yg,qB];rfl
theorem rmap_len {β:Type} {g:Nat→β} {k:Nat}:((wg k).map g).length=k:=by rw [jH,uQ]
set_option maxRecDepth 20000 in
theorem zGz (f:DForecast) (c:DChart) (s:DShip) (a:Int) (r:Sl Int) (h:Hp) (hf:jD h f) (hc:jD h c) (hs:jD h s) (ha:I64 a) (hr:r.Ok h) (hz:r.l.length≤1048576):Ct jV 177 [f.v,c.v,s.v,.int .i64 a,r.val] h fun v h'=>∃ (w:Sl Bool) (m:Sl Int) (u:Sl (Sl DWindow)),v=.tuple #[.agg #[w.val,m.val,u.val],.bool (voOk (jK f) (jK c) s a r.l)]∧w.Ok h'∧m.Ok h'∧u.Ok h'∧(voOk (jK f) (jK c) s a r.l=true→w.l=zGw (jK c) ((zEi (jK c) a r.l).getD []) r.l.length∧m.l=minL (jK c) s r.l r.l.length∧u.l.map (·.l)=zGx (jK f) (jK c) s r.l r.l.length):=by
 have hl:=hr.max
 have ae:(jK c).segments=c.segments.l:=zCd c
 have ag:(jK c).points=c.points.l:=zEm c
 refine zdn (fun A W=>by simp) Tryz.func177 rfl rfl (by simp) fun W0=>?_
 repeat' first|refine Wa ?_|refine zhF (fun _=>zBe f _ hf) ?_|refine zhF (fun _=>zBL s _ hs) ?_|refine zhF (fun _=>zE6 c a r _ hc ha hr hz) ?_|(simp only [go_sem,jq,jj,jy,jv,jk,jx];try rfl)|refine Wb ?_|fail
 refine zc9 rfl (fun K=>?_) (fun K=>?_)
 ·have ak:voOk (jK f) (jK c) s a r.l=false:=by
   rw [voOk]
   simp only [jQ,jd,beq_iff_eq] at K
   rw [qA,qA,qA,JH]
   rcases K with ((K|K)|K)|K
   ·exact .inl (.inl (.inl K))
   ·exact .inl (.inl (.inr K))
   ·exact .inl (.inr K)
   ·exact .inr (by omega)
  rw [ak]
  refine Wk ?_
  exact ⟨⟨none,0,[]⟩,⟨none,0,[]⟩,⟨none,0,[]⟩,rfl,znE,znE,znE,fun e=>by cases e⟩
 simp only [jp,jf,beq_eq_false_iff_ne,ne_eq] at K
 obtain ⟨⟨⟨hF,hS⟩,hR⟩,h0⟩:=K
 have aj:voOk (jK f) (jK c) s a r.l=true:=by rw [voOk,hF,hS,hR,JG (by omega)];rfl
 rw [aj]
 obtain ⟨hC,bf,pl,Z,al,ac,am⟩:=zE3 hR
 refine zc5 ?_
 refine Evs ?_
 (first|refine zie rfl ?_|refine zc4 rfl ?_|(refine zc3 ?_;first|refine zie rfl ?_|refine zc4 rfl ?_));simp only [go_sem,jq,jj,jy,jv,jk,jx]
 (first|refine zie rfl ?_|refine zc4 rfl ?_|(refine zc3 ?_;first|refine zie rfl ?_|refine zc4 rfl ?_));simp only [go_sem,jq,jj,jy,jv,jk,jx]
 refine Wk ?_
 refine zkr (zE8 c a r _ hc ha hr hz) rfl ?_
 rintro v h1 an ⟨p,rfl,Y,pok⟩
 rw [Z] at Y
 have Y:p.l=pl:=Y
 have ao:p.l.length=r.l.length+1:=by rw [Y];exact ac
 have a8:=pok.1
 simp only [go_sem,jq,jj,jy,jv,jk,jx,true_or,JA,je,jA,zza,zzb,ite_self,qQ]
 refine ⟨by omega,?_⟩
 rw [zzc (by omega)]
 refine zGu 4 [] [.v (.slice none 0 0),.v (.slice none 0 0)] 4 1 rfl ?_
 refine zGu 4 [.s 5] [.v (.slice none 0 0)] 3 1 rfl ?_
 refine zGu 4 [.s 5,.s 6] [] 283 1 rfl ?_
 have o:(p.to r.l.length).Ok h1:=Sl.to_ok pok _
 have bg:(p.to r.l.length).l.length=r.l.length:=Sl.to_len (by omega)
 refine Evs ?_
 refine Wk ?_
 refine zng (ι:=Nat × List (Sl DWindow) × Hp) (fun i=>⟨[(4,true,.c (.v r.val)),(5,true,.c (.p 0 0)),(6,true,.c (.p 1 0)),(7,true,.c (.p 2 0)),(10,true,.c (.p 3 0)),(11,true,.c (.v (.bool false))),(12,true,.c (.p 4 0)),(43,true,.c (.v (p.to r.l.length).val)),(44,true,.c (.v (.int .i64 r.l.length))),(45,true,.c (.v (.int .i64 i.1)))],[(0,.box 53 [.v (.int .i64 f.tide.mean),.v f.tide.parts.val,.v f.surges.val]),(1,.box 57 [.v c.points.val,.v c.segments.val]),(2,.box 157 [.v (.string s.name),.v (.int .i64 s.length),.v (.int .i64 s.draught),.v (.int .i64 s.line),.v (.int .i64 s.tugs),.v (.bool s.slow)]),(3,.box 162 [.v (.slice none 0 0),.v (.slice none 0 0),.v (.slice none 0 0)]),(4,.box 162 [.s 5,.s 6,.s 7]),(5,.row 4 1 i.1 ((zGw (jK c) p.l i.1).flatMap qx)),(6,.row 3 1 i.1 ((minL (jK c) s r.l i.1).flatMap qx)),(7,.row 283 1 i.1 (i.2.1.flatMap qx))],i.2.2,8⟩) (fun i=>i.1≤r.l.length∧i.2.1.map (·.l)=zGx (jK f) (jK c) s r.l i.1∧(∀ q ∈ i.2.1,jD i.2.2 q)∧h1.le i.2.2) (fun i=>r.l.length - i.1) (0,[],h1) ⟨jC _,rfl,fun _ h=>(by cases h),wW _⟩ [0,1,2,3,4,5,6,7] ?_ ?_
 ·refine Evs ?_
  exact Gk
 rintro ⟨k,us,hk⟩ ⟨ap,Q,O,R⟩
 simp only at ap Q O R
 have aq:us.length=k:=by have:=congrArg ud Q;rwa [jH,zGx,rmap_len] at this
 have M:h.le hk:=jB an R
 have fk:jD hk f:=jL M hf
 have b:jD hk c:=jL M hc
 have sk:jD hk s:=jL M hs
 have G:=hr.mono M
 replace o:=o.mono R
 refine Wk ?_
 refine zc9 rfl (fun hd=>?_) (fun hd=>?_)
 ·have n:=zjH hd
  have y:(k:Int) < r.l.length:=by omega
  have j:k < (p.to r.l.length).l.length:=by omega
  have t:(k:Int) < (p.to r.l.length).l.length:=by omega
  have aa:k < p.l.length:=by omega
  have z:(p.to r.l.length).l[k]=p.l[k]:=Sl.to_get _ _
  have ah:=am p.l[k] (by rw [← Y];exact qd aa)
  rw [ag] at ah
  obtain ⟨D,F⟩:=ah
  have d:p.l[k].toNat < c.points.l.length:=by omega
  have ab:=zE4 al (qV _) k n n
  rw [ae] at ab
  obtain ⟨H,J⟩:=ab
  have g:r.l[k].toNat < c.segments.l.length:=by omega
  have au:(c.points.l[p.l[k].toNat]).wait=((jK c).points.getD (p.l.getD k 0).toNat dP).wait:=by rw [ag,iget aa,pget d]
  have av:zCa s c.segments.l[r.l[k].toNat]=zCa s ((jK c).segments.getD (r.l.getD k 0).toNat dG):=by rw [ae,iget n,gget g]
  repeat' first|refine Wa ?_|(simp only [go_sem,jq,jj,jy,jv,jk,jx,zkR G n,G.some n,n,y,zkR o j,o.some j,j,t,z,zlf b.1 d,b.1.some d,zm6 b.1 d,d,D,F,zlh b.2 g,b.2.some g,zm7 b.2 g,g,H,J,jW,jY,Jg,JA,JB,JC];try rfl)|refine Wb ?_|fail
  refine zz5 rfl ?_
  refine U_t [0,2,4,1,3,5,6,7] rfl ?_
  simp only [go_sem,jq,jj,jy,jv,jk,jx,zkR G n,G.some n,n,y,zkR o j,o.some j,j,t,z,zlf b.1 d,b.1.some d,zm6 b.1 d,d,D,F,zlh b.2 g,b.2.some g,zm7 b.2 g,g,H,J,jW,jY,Jg,JA,JB,JC]
  refine U_1 8 0 [1,0] rfl rfl ?_
  simp only [go_sem,jq,jj,jy,jv,jk,jx,zkR G n,G.some n,n,y,zkR o j,o.some j,j,t,z,zlf b.1 d,b.1.some d,zm6 b.1 d,d,D,F,zlh b.2 g,b.2.some g,zm7 b.2 g,g,H,J,jW,jY,Jg,JA,JB,JC]
  refine U_1 9 0 [] rfl rfl ?_
  simp only [go_sem,jq,jj,jy,jv,jk,jx,zkR G n,G.some n,n,y,zkR o j,o.some j,j,t,z,zlf b.1 d,b.1.some d,zm6 b.1 d,d,D,F,zlh b.2 g,b.2.some g,zm7 b.2 g,g,H,J,jW,jY,Jg,JA,JB,JC]
  refine ⟨by simp only [maxLen];omega,by omega,?_⟩
  refine U_t [10] rfl ?_
  simp only [go_sem,jq,jj,jy,jv,jk,jx,zkR G n,G.some n,n,y,zkR o j,o.some j,j,t,z,zlf b.1 d,b.1.some d,zm6 b.1 d,d,D,F,zlh b.2 g,b.2.some g,zm7 b.2 g,g,H,J,jW,jY,Jg,JA,JB,JC]
  refine U_1 11 0 [] rfl rfl ?_
  simp only [go_sem,jq,jj,jy,jv,jk,jx,zkR G n,G.some n,n,y,zkR o j,o.some j,j,t,z,zlf b.1 d,b.1.some d,zm6 b.1 d,d,D,F,zlh b.2 g,b.2.some g,zm7 b.2 g,g,H,J,jW,jY,Jg,JA,JB,JC]
  refine U_d ?_
  repeat' first|refine Wa ?_|(simp only [go_sem,jq,jj,jy,jv,jk,jx,zkR G n,G.some n,n,y,zkR o j,o.some j,j,t,z,zlf b.1 d,b.1.some d,zm6 b.1 d,d,D,F,zlh b.2 g,b.2.some g,zm7 b.2 g,g,H,J,jW,jY,Jg,JA,JB,JC];try rfl)|refine Wb ?_|fail
  refine zz5 rfl ?_
  refine U_t [0,2,3,5,6,1,4,7,8,9,10] rfl ?_
  simp only [go_sem,jq,jj,jy,jv,jk,jx,zkR G n,G.some n,n,y,zkR o j,o.some j,j,t,z,zlf b.1 d,b.1.some d,zm6 b.1 d,d,D,F,zlh b.2 g,b.2.some g,zm7 b.2 g,g,H,J,jW,jY,Jg,JA,JB,JC]
  refine U_1 11 0 [1,0] rfl rfl ?_
  simp only [go_sem,jq,jj,jy,jv,jk,jx,zkR G n,G.some n,n,y,zkR o j,o.some j,j,t,z,zlf b.1 d,b.1.some d,zm6 b.1 d,d,D,F,zlh b.2 g,b.2.some g,zm7 b.2 g,g,H,J,jW,jY,Jg,JA,JB,JC]
  refine zhF (fun _=>zCi s c.segments.l[r.l[k].toNat] _) ?_
  simp only [go_sem,jq,jj,jy,jv,jk,jx,zkR G n,G.some n,n,y,zkR o j,o.some j,j,t,z,zlf b.1 d,b.1.some d,zm6 b.1 d,d,D,F,zlh b.2 g,b.2.some g,zm7 b.2 g,g,H,J,jW,jY,Jg,JA,JB,JC]
  refine U_1 12 0 [1,0] rfl rfl ?_
  simp only [go_sem,jq,jj,jy,jv,jk,jx,zkR G n,G.some n,n,y,zkR o j,o.some j,j,t,z,zlf b.1 d,b.1.some d,zm6 b.1 d,d,D,F,zlh b.2 g,b.2.some g,zm7 b.2 g,g,H,J,jW,jY,Jg,JA,JB,JC]
  refine U_1 13 0 [] rfl rfl ?_
  simp only [go_sem,jq,jj,jy,jv,jk,jx,zkR G n,G.some n,n,y,zkR o j,o.some j,j,t,z,zlf b.1 d,b.1.some d,zm6 b.1 d,d,D,F,zlh b.2 g,b.2.some g,zm7 b.2 g,g,H,J,jW,jY,Jg,JA,JB,JC]
  refine ⟨by simp only [maxLen];omega,by omega,?_⟩
  refine U_t [14] rfl ?_
  simp only [go_sem,jq,jj,jy,jv,jk,jx,zkR G n,G.some n,n,y,zkR o j,o.some j,j,t,z,zlf b.1 d,b.1.some d,zm6 b.1 d,d,D,F,zlh b.2 g,b.2.some g,zm7 b.2 g,g,H,J,jW,jY,Jg,JA,JB,JC]
  refine U_1 15 0 [] rfl rfl ?_
  simp only [go_sem,jq,jj,jy,jv,jk,jx,zkR G n,G.some n,n,y,zkR o j,o.some j,j,t,z,zlf b.1 d,b.1.some d,zm6 b.1 d,d,D,F,zlh b.2 g,b.2.some g,zm7 b.2 g,g,H,J,jW,jY,Jg,JA,JB,JC]
  refine U_d ?_
  repeat' first|refine Wa ?_|(simp only [go_sem,jq,jj,jy,jv,jk,jx,zkR G n,G.some n,n,y,zkR o j,o.some j,j,t,z,zlf b.1 d,b.1.some d,zm6 b.1 d,d,D,F,zlh b.2 g,b.2.some g,zm7 b.2 g,g,H,J,jW,jY,Jg,JA,JB,JC];try rfl)|refine Wb ?_|fail
  refine zz5 rfl ?_
  refine U_t [0,2,3,4,5,8,1,6,7] rfl ?_
  simp only [go_sem,jq,jj,jy,jv,jk,jx,zkR G n,G.some n,n,y,zkR o j,o.some j,j,t,z,zlf b.1 d,b.1.some d,zm6 b.1 d,d,D,F,zlh b.2 g,b.2.some g,zm7 b.2 g,g,H,J,jW,jY,Jg,JA,JB,JC]
  refine U_1 9 0 [1,0] rfl rfl ?_
  simp only [go_sem,jq,jj,jy,jv,jk,jx,zkR G n,G.some n,n,y,zkR o j,o.some j,j,t,z,zlf b.1 d,b.1.some d,zm6 b.1 d,d,D,F,zlh b.2 g,b.2.some g,zm7 b.2 g,g,H,J,jW,jY,Jg,JA,JB,JC]
  refine zkr (zD1 f c r.l[k] s _ fk b sk) rfl ?_
  rintro v h3 X ⟨q,rfl,eq,aw,mq⟩
  have ai:=G.mono X
  simp only [go_sem,jq,jj,jy,jv,jk,jx,zkR ai n,ai.some n,n,y,zkR o j,o.some j,j,t,z,zlf b.1 d,b.1.some d,zm6 b.1 d,d,D,F,zlh b.2 g,b.2.some g,zm7 b.2 g,g,H,J,jW,jY,Jg,JA,JB,JC]
  refine U_1 10 0 [1,0] rfl rfl ?_
  refine Evs ?_
  refine U_1 11 0 [] rfl rfl ?_
  refine Evs ?_
  refine ⟨by simp only [maxLen];omega,by omega,?_⟩
  refine U_t [12] rfl ?_
  refine Evs ?_
  refine U_1 13 0 [] rfl rfl ?_
  refine Evs ?_
  refine U_d ?_
  refine Wk ?_
  refine ⟨(k+1,us ++ [q],h3),[0,1,2,3,4,9,11,13],⟨n,?_,fun q' N=>?_,jB R X⟩,by simp only;omega,?_⟩
  ·rw [qB,Q,zGx,zGx,zGy,iget n,← eq];rfl
  ·rcases List.mem_append.1 N with N|N
   ·exact jL X (O q' N)
   ·rw [List.mem_singleton.1 N];exact aw
  have bd:=jB M X
  refine Evs ?_
  simp only [zGw,minL,zGy,jF,← au,← av]
  exact Gi (zjA n (by omega))
 ·have bh:=zjI hd
  obtain rfl:k=r.l.length:=by omega
  refine zc6 ?_
  refine Evs ?_
  refine zD5 5 (zGw (jK c) p.l r.l.length) rfl rfl rmap_len.symm rfl fun w g1 ew Rw fw lw kw=>?_
  refine Evs ?_
  refine zD5 6 (minL (jK c) s r.l r.l.length) rfl rfl rmap_len.symm rfl fun m g2 em Rm fm lm km=>?_
  refine Evs ?_
  refine zD5 7 us rfl rfl aq.symm rfl fun u g3 eu Ru fu lu ku=>?_
  refine Evs ?_
  have lw:hk.le g1:=lw
  have lm:g1.le g2:=lm
  have lu:g2.le g3:=lu
  have ax:w.Ok g1:=Rw.ok (by decide) fun x K=>trivial
  have az:m.Ok g2:=Rm.ok (by decide) fun x K=>by
   rw [em] at K
   obtain ⟨i,hi,rfl⟩:=List.mem_map.1 K
   exact zGv b (r.l.getD i 0).toNat
  have a7:u.Ok g3:=Ru.ok (by decide) fun x K=>jL (jB lw (jB lm lu)) (O x (by rw [← eu];exact K))
  refine Wk ?_
  refine ⟨w,m,u,rfl,ax.mono (jB lm lu),az.mono lu,a7,?_,em,by rw [eu,Q]⟩
  rw [ew,Z,Y];rfl
theorem zGA {l:List DWindow} {t:Int} (h:0≤zC6 l t):t≤zC6 l t:=by
 unfold zC6 at h ⊢
 split
 ·split
  ·exact Int.le_max_right _ _
  ·rename_i a _ h2;rw [if_pos a] at h;simp only [h2] at h;omega
 ·rename_i a;rw [if_neg a] at h;omega
theorem zGB {l:List DWindow} {t:Int} {h:Hp} (b:∀ w ∈ l,jD h w) (d:I64 t):I64 (zC6 l t):=by
 have a:I64 (-1):=by unfold I64;omega
 unfold zC6
 split
 ·split
  ·rename_i w c
   have:=(b w (List.mem_of_find?_eq_some c)).1
   unfold I64 at *
   rw [Int.max_def];split <;> omega
  ·exact a
 ·exact a
def zGC (w:List Bool) (m:List Int) (u:List (List DWindow)) (k:Nat) (l:List Int):Option (List Int) :=
 let t:=IntKind.i64.wrap (l.getD k 0+m.getD k 0)
 let n:=zC6 (u.getD (k+1) []) t
 if n < 0∨(t < n∧w.getD (k+1) false=false) then none else some (l ++ [n])
def slK (w:List Bool) (m:List Int) (u:List (List DWindow)) (st:Int):Nat→Option (List Int)
 | 0=>some [st]
 | k+1=>(slK w m u st k).bind (zGC w m u k)
def zGD (w:List Bool) (m:List Int) (u:List (List DWindow)) (st:Int):Option (List Int):=if zC5 (u.getD 0 []) st=true then slK w m u st (u.length - 1) else none
theorem zGE {w:List Bool} {m:List Int} {u:List (List DWindow)} {st:Int} (h:zC5 (u.getD 0 []) st=false):zGD w m u st=none:=by rw [zGD,if_neg (by rw [h];exact qa)]
theorem zGF {w:List Bool} {m:List Int} {u:List (List DWindow)} {st:Int} (h:zC5 (u.getD 0 []) st=true):zGD w m u st=slK w m u st (u.length - 1):=by rw [zGD,if_pos h]
theorem zGG {w:List Bool} {m:List Int} {u:List (List DWindow)} {st:Int} {k:Nat} (h:slK w m u st k=none):∀ {n:Nat},k≤n→slK w m u st n=none
 | 0,a=>by rw [← Nat.le_zero.1 a,h]
 | n+1,a=>by
  rcases wv k (n+1) with b|b
  ·rw [slK,zGG h (Nat.le_of_lt_succ b)];rfl
  ·obtain rfl:k=n+1:=by omega
   exact h
theorem zGH {w:List Bool} {m:List Int} {u:List (List DWindow)} {st:Int}:∀ {k:Nat} {l:List Int},slK w m u st k=some l→l.length=k+1
 | 0,l,h=>by rw [slK] at h;rw [← Option.some.inj h];rfl
 | k+1,l,h=>by
  rw [slK] at h
  cases a:slK w m u st k with
  | none=>rw [a] at h;cases h
  | some p =>
   rw [a,yf] at h
   unfold zGC at h
   dsimp only at h
   split at h
   ·cases h
   ·rw [← Option.some.inj h,jP,zGH a];rfl
theorem lget {l:List (Sl DWindow)} {i:Nat} (a:i < l.length):(l.map (·.l)).getD i []=l[i].l:=by simp [ja,a]
theorem zGI {l:List Bool} {i:Nat} (a:i < l.length):l.getD i false=l[i]:=by simp [ja,a]
theorem zGJ {l:List Int} {i:Nat} (a:i < l.length):(l.flatMap qx).getD i undef=Value.int .i64 l[i]:=by rw [zEd];simp [ja,a]
theorem zGK {l:List Int}:(l.flatMap qx).length=l.length:=by rw [zEd,jH]
theorem zGL (w:Sl Bool) (m:Sl Int) (u:Sl (Sl DWindow)) (st:Int) (h:Hp) (hw:w.Ok h) (hm:m.Ok h) (z:u.Ok h) (ak:I64 st) (ax:w.l.length=u.l.length) (az:m.l.length=u.l.length) (h0:0 < u.l.length) (f:u.l.length≤1048576):Ct jV 178 [.agg #[w.val,m.val,u.val],.int .i64 st] h fun v h'=>∃ s:Sl Int,v=.tuple #[s.val,.bool (zGD w.l m.l (u.l.map (·.l)) st).isSome]∧s.l=(zGD w.l m.l (u.l.map (·.l)) st).getD []∧s.Ok h':=by
 have M:=zkQ z h0
 simp only [go_sem,jA] at M
 have al:(0:Int) < u.l.length:=by omega
 refine zdn (fun A W=>by simp) Tryz.func178 rfl rfl (by simp) fun W0=>?_
 repeat' first|refine Wa ?_|refine zhF (fun _=>zDi u.l[0] st _ (z.el h0)) ?_|(simp only [go_sem,jq,jj,jy,jv,jk,jx,M,z.some h0,h0,al,je,jA,qF,Jg,JA,JB];try rfl)|refine Wb ?_|fail
 have am:(u.l.map (·.l)).length=u.l.length:=jH ..
 refine zc9 rfl (fun a=>?_) (fun a=>?_)
 ·rw [jd] at a
  rw [zGE (by rw [lget h0];exact a)]
  refine Wk ?_
  exact ⟨⟨none,0,[]⟩,rfl,rfl,znE⟩
 rw [jf] at a
 rw [zGF (by rw [lget h0];exact a),am]
 refine Wk ?_
 refine zng (ι:=Nat × List Int) (fun i=>⟨[(2,true,.c (.p 0 0)),(4,true,.c (.v (.slice none 0 0))),(5,true,.c (.v (.bool false))),(6,true,.c (.s 1)),(7,true,.c (.v (.int .i64 (i.1+1:Nat))))],[(0,.box 162 [.v w.val,.v m.val,.v u.val]),(1,.row 3 1 (i.1+1) (i.2.flatMap qx))],h,2⟩) (fun i=>i.1+1≤u.l.length∧slK w.l m.l (u.l.map (·.l)) st i.1=some i.2∧∀ x ∈ i.2,I64 x) (fun i=>u.l.length - i.1) (0,[st]) ⟨h0,rfl,fun x a=>by rw [List.mem_singleton.1 a];exact ak⟩ [0,1] ?_ ?_
 ·refine Evs ?_
  exact Gk
 rintro ⟨k,l⟩ ⟨an,j,G⟩
 simp only at an j G
 have ah:=zGH j
 refine Wk ?_
 refine zc9 rfl (fun hd=>?_) (fun hd=>?_)
 ·have d:k+1 < u.l.length:=by have:=JE hd;omega
  have ai:((k+1:Nat):Int) < u.l.length:=by omega
  have H:k < l.length:=by omega
  have N:(k:Int) < l.length:=by omega
  have O:(k:Int) < ((k+1:Nat):Int):=by omega
  have aa:IntKind.i64.wrap (((k+1:Nat):Int) - 1)=(k:Int):=by rw [zjz (by omega)];omega
  have ab:=zGJ H
  have ac:=zGK (l:=l)
  have o:k < m.l.length:=by omega
  have Q:(k:Int) < m.l.length:=by omega
  have D:=zkR hm o
  simp only [wy] at D
  have ao:m.l.getD k 0=m.l[k]:=iget o
  obtain ⟨t,r⟩:∃ t,IntKind.i64.wrap (l[k]+m.l[k])=t:=⟨_,rfl⟩
  have g:k+1 < w.l.length:=by omega
  have X:(((k+1:Nat):Int)) < w.l.length:=by omega
  have ap:w.l.getD (k+1) false=w.l[k+1]:=zGI g
  have ae:zGC w.l m.l (u.l.map (·.l)) k l=none→slK w.l m.l (u.l.map (·.l)) st (u.l.length - 1)=none:=fun e=>zGG (k:=k+1) (by rw [slK,j];exact e) (by omega)
  have aj:I64 t:=by rw [← r];exact i64w _
  obtain ⟨n,Y⟩:∃ n,zC6 u.l[k+1].l t=n:=⟨_,rfl⟩
  have y:zGC w.l m.l (u.l.map (·.l)) k l=if n < 0∨(t < n∧w.l[k+1]=false) then none else some (l ++ [n]):=by
   unfold zGC
   simp only [iget H,ao,r,lget d,Y,ap]
  have Z:I64 n:=by rw [← Y];exact zGB (fun x a=>(z.el d).2.2.2.1 x a) aj
  have ag:∀ {b:Bool},(b=false)=(b=false):=rfl
  repeat' first|refine Wa ?_|(simp only [go_sem,jq,jj,jy,jv,jk,jx,aa,D,hm.some o,o,Q,H,N,ab,ac,r,wy,O,jW,jY,Jg,JA,JB,JC];try rfl)|refine Wb ?_|fail
  refine zz5 rfl ?_
  refine U_t [0,1,5,7,2,6,8,3,9,4,10,11,12] rfl ?_
  simp only [go_sem,jq,jj,jy,jv,jk,jx,aa,D,hm.some o,o,Q,H,N,ab,ac,r,wy,O,jW,jY,Jg,JA,JB,JC]
  refine U_d ?_
  repeat' first|refine Wa ?_|refine zhF (fun _=>zDj u.l[k+1] t _ (z.el d)) ?_|(simp only [go_sem,jq,jj,jy,jv,jk,jx,zkQ z d,z.some d,d,ai,jW,jY,Jg,JA,JB,JC];try rfl)|refine Wb ?_|fail
  rw [Y]
  by_cases K:n < 0
  ·repeat' first|refine Wa ?_|(simp only [go_sem,jq,jj,jy,jv,jk,jx,eq_true K,reduceCtorEq,decide_true,decide_false,wj,wq,yw,wa,wC,uw,qp,qc,wJ,qP,qW,false_implies,Jg,JA];try rfl)|refine Wb ?_|fail
   refine zc9 rfl (fun f=>?_) (fun f=>?_)
   case refine_2=>cases f
   refine Wk ?_
   rw [ae (by rw [y,if_pos (.inl K)])]
   exact ⟨⟨none,0,[]⟩,rfl,rfl,znE⟩
  have aw:t≤n:=by have:=zGA (l:=u.l[k+1].l) (t:=t) (by omega);omega
  by_cases J:t < n
  ·have au:(n != t)=true:=by rw [bne_iff_ne];omega
   repeat' first|refine Wa ?_|(simp only [go_sem,jq,jj,jy,jv,jk,jx,eq_false K,eq_true J,zC1 hw g,hw.some g,g,X,ag,jW,jY,Jg,JA,JB,JC,reduceCtorEq,decide_true,decide_false,wj,wq,yw,wa,wC,uw,qp,qc,wJ,qP,qW,false_implies,Jg,JA];try rfl)|refine Wb ?_|fail
   refine zc9 rfl (fun f=>?_) (fun f=>?_)
   ·refine Wk ?_
    rw [ae (by rw [y,if_pos (.inr ⟨J,by simpa using f⟩)])]
    exact ⟨⟨none,0,[]⟩,rfl,rfl,znE⟩
   have F:¬ (n < 0∨(t < n∧w.l[k+1]=false)):=by
    rintro (e|e)
    ·exact K e
    ·rw [e.2] at f;cases f
   refine Wk ?_
   refine ⟨by simp only [maxLen];omega,by omega,?_⟩
   refine Wk ?_
   refine ⟨(k+1,l ++ [n]),[0,3],⟨by simp only;omega,by rw [slK,j,yf,y,if_neg F],fun x a=>?_⟩,by simp only;omega,?_⟩
   ·rcases List.mem_append.1 a with a|a
    ·exact G x a
    ·rw [List.mem_singleton.1 a];exact Z
   refine Evs ?_
   simp only [jF]
   exact Gi (zjA (n:=u.l.length) (k:=k+1) d (by omega))
  ·have av:(n != t)=false:=by rw [bne_eq_false_iff_eq];omega
   repeat' first|refine Wa ?_|(simp only [go_sem,jq,jj,jy,jv,jk,jx,eq_false K,eq_false J,zC1 hw g,hw.some g,g,X,ag,jW,jY,Jg,JA,JB,JC,reduceCtorEq,decide_true,decide_false,wj,wq,yw,wa,wC,uw,qp,qc,wJ,qP,qW,false_implies,Jg,JA];try rfl)|refine Wb ?_|fail
   refine zc9 rfl (fun f=>?_) (fun f=>?_)
   ·cases f
   have F:¬ (n < 0∨(t < n∧w.l[k+1]=false)):=by
    rintro (e|e)
    ·exact K e
    ·exact J e.1
   refine Wk ?_
   refine ⟨by simp only [maxLen];omega,by omega,?_⟩
   refine Wk ?_
   refine ⟨(k+1,l ++ [n]),[0,3],⟨by simp only;omega,by rw [slK,j,yf,y,if_neg F],fun x a=>?_⟩,by simp only;omega,?_⟩
   ·rcases List.mem_append.1 a with a|a
    ·exact G x a
    ·rw [List.mem_singleton.1 a];exact Z
   refine Evs ?_
   simp only [jF]
   exact Gi (zjA (n:=u.l.length) (k:=k+1) d (by omega))
 ·have a7:u.l.length≤k+1:=by have:=JF hd;omega
  have aq:u.l.length - 1=k:=by omega
  refine zc6 ?_
  refine Evs ?_
  refine zD5 1 l rfl rfl ah.symm rfl fun q h' e1 R f1 l1 k1=>?_
  refine Wk ?_
  rw [aq,j]
  exact ⟨q,rfl,e1,R.ok (by decide) fun x a=>G x (by rw [← e1];exact a)⟩
theorem zGM (c:DChart) (s:DShip) (p r:Sl Int) (u:Sl (Sl DWindow)) (st:Int) (h:Hp) (f:jD h c) (hs:jD h s) (hp:p.Ok h) (hr:r.Ok h) (Y:u.Ok h) (au:I64 st) (bl:r.l.length=u.l.length) (bm:p.l.length=u.l.length+1) (h0:0 < u.l.length) (z:u.l.length≤1048576) (av:∀ i (hi:i < r.l.length),0≤r.l[i]∧r.l[i] < c.segments.l.length) (aw:∀ i (hi:i < p.l.length),0≤p.l[i]∧p.l[i] < c.points.l.length):Ct jV 167 [c.v,s.v,p.val,r.val,u.val,.int .i64 st] h fun v h'=>∃ q:Sl Int,v=.tuple #[q.val,.bool (zGD (zGw (jK c) p.l r.l.length) (minL (jK c) s r.l r.l.length) (u.l.map (·.l)) st).isSome]∧q.l=(zGD (zGw (jK c) p.l r.l.length) (minL (jK c) s r.l r.l.length) (u.l.map (·.l)) st).getD []∧q.Ok h':=by
 have ax:(jK c).segments=c.segments.l:=zCd c
 have az:(jK c).points=c.points.l:=zEm c
 have bi:(zGw (jK c) p.l r.l.length).length=r.l.length:=rmap_len
 have bj:(minL (jK c) s r.l r.l.length).length=r.l.length:=rmap_len
 have ab:=zkQ Y h0
 simp only [go_sem,jA] at ab
 have a7:(0:Int) < u.l.length:=by omega
 refine zdn (fun A W=>by simp) Tryz.func167 rfl rfl (by simp) fun W0=>?_
 repeat' first|refine Wa ?_|refine zhF (fun _=>zDf u.l[0] st _ (Y.el h0)) ?_|(simp only [go_sem,jq,jj,jy,jv,jk,jx,ab,Y.some h0,h0,a7,je,jA,qF,Jg,JA,JB];try rfl)|refine Wb ?_|fail
 have a8:(u.l.map (·.l)).length=u.l.length:=jH ..
 refine zc9 rfl (fun d=>?_) (fun d=>?_)
 ·rw [jd] at d
  rw [zGE (by rw [lget h0];exact d)]
  refine Wk ?_
  exact ⟨⟨none,0,[]⟩,rfl,rfl,znE⟩
 rw [jf] at d
 rw [zGF (by rw [lget h0];exact d),a8]
 refine Wk ?_
 refine zng (ι:=Nat × List Int) (fun i=>⟨[(2,true,.c (.v p.val)),(3,true,.c (.v r.val)),(4,true,.c (.v u.val)),(6,true,.c (.p 0 0)),(7,true,.c (.p 1 0)),(12,true,.c (.v (.slice none 0 0))),(13,true,.c (.v (.bool false))),(14,true,.c (.s 2)),(15,true,.c (.v (.int .i64 (i.1+1:Nat))))],[(0,.box 57 [.v c.points.val,.v c.segments.val]),(1,.box 157 [.v (.string s.name),.v (.int .i64 s.length),.v (.int .i64 s.draught),.v (.int .i64 s.line),.v (.int .i64 s.tugs),.v (.bool s.slow)]),(2,.row 3 1 (i.1+1) (i.2.flatMap qx))],h,3⟩) (fun i=>i.1+1≤u.l.length∧slK (zGw (jK c) p.l r.l.length) (minL (jK c) s r.l r.l.length) (u.l.map (·.l)) st i.1=some i.2∧∀ x ∈ i.2,I64 x) (fun i=>u.l.length - i.1) (0,[st]) ⟨h0,rfl,fun x d=>by rw [List.mem_singleton.1 d];exact au⟩ [0,1,2] ?_ ?_
 ·refine Evs ?_
  exact Gk
 rintro ⟨k,l⟩ ⟨bd,J,aa⟩
 simp only at bd J aa
 have ao:=zGH J
 refine Wk ?_
 refine zc9 rfl (fun hd=>?_) (fun hd=>?_)
 ·have w:k+1 < u.l.length:=by have:=JE hd;omega
  have ap:((k+1:Nat):Int) < u.l.length:=by omega
  have D:k < l.length:=by omega
  have F:(k:Int) < l.length:=by omega
  have G:(k:Int) < ((k+1:Nat):Int):=by omega
  have M:IntKind.i64.wrap (((k+1:Nat):Int) - 1)=(k:Int):=by rw [zjz (by omega)];omega
  have N:=zGJ D
  have O:=zGK (l:=l)
  have g:k < r.l.length:=by omega
  have H:(k:Int) < r.l.length:=by omega
  have o:=zkR hr g
  simp only [wy] at o
  obtain ⟨Q,X⟩:=av k g
  have a:r.l[k].toNat < c.segments.l.length:=by omega
  have bf:(minL (jK c) s r.l r.l.length).getD k 0=zCa s c.segments.l[r.l[k].toNat]:=by
   rw [iget (by omega)]
   simp only [minL,qH,ua]
   rw [ax,iget g,gget a]
  obtain ⟨t,m⟩:∃ t,IntKind.i64.wrap (l[k]+zCa s c.segments.l[r.l[k].toNat])=t:=⟨_,rfl⟩
  have y:k+1 < p.l.length:=by omega
  have ac:(((k+1:Nat):Int)) < p.l.length:=by omega
  obtain ⟨aj,ak⟩:=aw (k+1) y
  have j:p.l[k+1].toNat < c.points.l.length:=by omega
  have bg:(zGw (jK c) p.l r.l.length).getD (k+1) false=c.points.l[p.l[k+1].toNat].wait:=by
   rw [zGI (by omega)]
   simp only [zGw,qH,ua]
   rw [az,iget y,pget j]
  have al:zGC (zGw (jK c) p.l r.l.length) (minL (jK c) s r.l r.l.length) (u.l.map (·.l)) k l=none→slK (zGw (jK c) p.l r.l.length) (minL (jK c) s r.l r.l.length) (u.l.map (·.l)) st (u.l.length - 1)=none:=fun e=>zGG (k:=k+1) (by rw [slK,J];exact e) (by omega)
  have aq:I64 t:=by rw [← m];exact i64w _
  obtain ⟨n,ae⟩:∃ n,zC6 u.l[k+1].l t=n:=⟨_,rfl⟩
  have K:zGC (zGw (jK c) p.l r.l.length) (minL (jK c) s r.l r.l.length) (u.l.map (·.l)) k l=if n < 0∨(t < n∧c.points.l[p.l[k+1].toNat].wait=false) then none else some (l ++ [n]):=by
   unfold zGC
   simp only [iget D,bf,m,lget w,ae,bg]
  have ag:I64 n:=by rw [← ae];exact zGB (fun x d=>(Y.el w).2.2.2.1 x d) aq
  have am:∀ {b:Bool},(b=false)=(b=false):=rfl
  repeat' first|refine Wa ?_|(simp only [go_sem,jq,jj,jy,jv,jk,jx,M,o,hr.some g,g,H,zlh f.2 a,f.2.some a,zm7 f.2 a,a,Q,X,D,F,N,O,m,wy,G,jW,jY,Jg,JA,JB,JC];try rfl)|refine Wb ?_|fail
  refine zz5 rfl ?_
  refine U_t [0,1,5,7,8,14,2,6,9,3,10,4,11,12,13] rfl ?_
  simp only [go_sem,jq,jj,jy,jv,jk,jx,M,o,hr.some g,g,H,zlh f.2 a,f.2.some a,zm7 f.2 a,a,Q,X,D,F,N,O,m,wy,G,jW,jY,Jg,JA,JB,JC]
  refine U_1 15 0 [4,3,2] rfl rfl ?_
  simp only [go_sem,jq,jj,jy,jv,jk,jx,M,o,hr.some g,g,H,zlh f.2 a,f.2.some a,zm7 f.2 a,a,Q,X,D,F,N,O,m,wy,G,jW,jY,Jg,JA,JB,JC]
  refine zhF (fun _=>zCh c.segments.l[r.l[k].toNat] s _) ?_
  simp only [go_sem,jq,jj,jy,jv,jk,jx,M,o,hr.some g,g,H,zlh f.2 a,f.2.some a,zm7 f.2 a,a,Q,X,D,F,N,O,m,wy,G,jW,jY,Jg,JA,JB,JC]
  refine U_t [16,17] rfl ?_
  simp only [go_sem,jq,jj,jy,jv,jk,jx,M,o,hr.some g,g,H,zlh f.2 a,f.2.some a,zm7 f.2 a,a,Q,X,D,F,N,O,m,wy,G,jW,jY,Jg,JA,JB,JC]
  refine U_d ?_
  repeat' first|refine Wa ?_|refine zhF (fun _=>zDg u.l[k+1] t _ (Y.el w)) ?_|(simp only [go_sem,jq,jj,jy,jv,jk,jx,zkQ Y w,Y.some w,w,ap,jW,jY,Jg,JA,JB,JC];try rfl)|refine Wb ?_|fail
  rw [ae]
  by_cases hy:n < 0
  ·refine Wk ?_
   refine zz5 rfl ?_
   refine U_t [0,1,2,3,4,5,6,7,9,10,8,11,12,13,14,15,16,17,18] rfl ?_
   simp only [go_sem,jq,jj,jy,jv,jk,jx,eq_true hy,reduceCtorEq,decide_true,decide_false,wj,wq,yw,wa,wC,uw,qp,qc,wJ,qP,qW,false_implies,Jg,JA]
   refine U_d ?_
   refine Wk ?_
   refine zc9 rfl (fun z=>?_) (fun z=>?_)
   case refine_2=>cases z
   refine Wk ?_
   rw [al (by rw [K,if_pos (.inl hy)])]
   exact ⟨⟨none,0,[]⟩,rfl,rfl,znE⟩
  have bk:t≤n:=by have:=zGA (l:=u.l[k+1].l) (t:=t) (by omega);omega
  by_cases an:t < n
  ·have ah:(n != t)=true:=by rw [bne_iff_ne];omega
   refine Wk ?_
   refine zz5 rfl ?_
   refine U_t [0,1,2,3,4,5,6,7,9,10,8,11,12,13,14,15,16,17,18] rfl ?_
   simp only [go_sem,jq,jj,jy,jv,jk,jx,eq_false hy,ah,zkR hp y,hp.some y,y,ac,am,zm6 f.1 j,zlf f.1 j,f.1.some j,j,aj,ak,jW,jY,Jg,JA,JB,JC,reduceCtorEq,decide_true,decide_false,wj,wq,yw,wa,wC,uw,qp,qc,wJ,qP,qW,false_implies,Jg,JA]
   refine U_d ?_
   refine Wk ?_
   refine zc9 rfl (fun z=>?_) (fun z=>?_)
   ·refine Wk ?_
    rw [al (by rw [K,if_pos (.inr ⟨an,by simpa using z⟩)])]
    exact ⟨⟨none,0,[]⟩,rfl,rfl,znE⟩
   have Z:¬ (n < 0∨(t < n∧c.points.l[p.l[k+1].toNat].wait=false)):=by
    rintro (e|e)
    ·exact hy e
    ·rw [e.2] at z;cases z
   refine Wk ?_
   refine ⟨by simp only [maxLen];omega,by omega,?_⟩
   refine Wk ?_
   refine ⟨(k+1,l ++ [n]),[0,1,4],⟨by simp only;omega,by rw [slK,J,yf,K,if_neg Z],fun x d=>?_⟩,by simp only;omega,?_⟩
   ·rcases List.mem_append.1 d with d|d
    ·exact aa x d
    ·rw [List.mem_singleton.1 d];exact ag
   refine Evs ?_
   simp only [jF]
   exact Gi (zjA (n:=u.l.length) (k:=k+1) w (by omega))
  ·have ai:(n != t)=false:=by rw [bne_eq_false_iff_eq];omega
   refine Wk ?_
   refine zz5 rfl ?_
   refine U_t [0,1,2,3,4,5,6,7,9,10,8,11,12,13,14,15,16,17,18] rfl ?_
   simp only [go_sem,jq,jj,jy,jv,jk,jx,eq_false hy,ai,zkR hp y,hp.some y,y,ac,am,zm6 f.1 j,zlf f.1 j,f.1.some j,j,aj,ak,jW,jY,Jg,JA,JB,JC,reduceCtorEq,decide_true,decide_false,wj,wq,yw,wa,wC,uw,qp,qc,wJ,qP,qW,false_implies,Jg,JA]
   refine U_d ?_
   refine Wk ?_
   refine zc9 rfl (fun z=>?_) (fun z=>?_)
   ·cases z
   have Z:¬ (n < 0∨(t < n∧c.points.l[p.l[k+1].toNat].wait=false)):=by
    rintro (e|e)
    ·exact hy e
    ·exact an e.1
   refine Wk ?_
   refine ⟨by simp only [maxLen];omega,by omega,?_⟩
   refine Wk ?_
   refine ⟨(k+1,l ++ [n]),[0,1,4],⟨by simp only;omega,by rw [slK,J,yf,K,if_neg Z],fun x d=>?_⟩,by simp only;omega,?_⟩
   ·rcases List.mem_append.1 d with d|d
    ·exact aa x d
    ·rw [List.mem_singleton.1 d];exact ag
   refine Evs ?_
   simp only [jF]
   exact Gi (zjA (n:=u.l.length) (k:=k+1) w (by omega))
 ·have bn:u.l.length≤k+1:=by have:=JF hd;omega
  have bh:u.l.length - 1=k:=by omega
  refine zc6 ?_
  refine Evs ?_
  refine zD5 2 l rfl rfl ao.symm rfl fun q h' e1 R f1 l1 k1=>?_
  refine Wk ?_
  rw [bh,J]
  exact ⟨q,rfl,e1,R.ok (by decide) fun x d=>aa x (by rw [← e1];exact d)⟩
end Go.Proofs.YtbkaaakphpbmiaaGreat
