/- What functions of the given program compute, as contracts. -/
import Derived.Test.YtdeflkhkfmjckaaGreatXGFnTop11
import Derived.Test.YtdeflkhkfmjckaaGreatXGFnTop6
import Derived.Test.YtdeflkhkfmjckaaGreatXGFnTop7
import Derived.Test.YtdeflkhkfmjckaaGreatXGFnTop9
set_option linter.unusedVariables false
set_option linter.unusedSimpArgs false
set_option maxRecDepth 4000
open Nat renaming reduceAdd → jq, reduceMul → jj, reduceBEq → jy, reduceLeDiff → jv, reduceLT → jk, reduceEqDiff → jx
open Bool renaming or_eq_false_iff → jp, or_eq_true → jQ, and_eq_true → jJ
open Int renaming toNat_natCast → jW, natCast_nonneg → jY
open Go.Proofs.Tryz renaming prog → jV
namespace Go.Proofs.YtdeflkhkfmjckaaGreat
open Go Go.SL
set_option maxHeartbeats 1000000
theorem zBh {s:DShip} {g:DSegment} (h:1≤g.minutes∧g.minutes≤240):1≤zvG s g∧zvG s g≤480:=by
 unfold zvG
 split
 ·rw [zjz (by omega)];omega
 ·omega
theorem zBi {c:zFb} (h:zva c=true) {i:Nat} (hi:i < c.segments.length):1≤(c.segments.getD i dG).minutes∧(c.segments.getD i dG).minutes≤240:=by
 simp only [zva,jJ,decide_eq_true_eq] at h
 have:=h.2 i hi
 simp only [zu9,zu7,jJ,decide_eq_true_eq] at this
 exact ⟨this.1.2.2.2.2.2.2.2.1,this.1.2.2.2.2.2.2.2.2⟩
theorem zBj {c:zFb} (h:zva c=true):c.points.length≤8∧∀ i,i < c.segments.length→0≤(c.segments.getD i dG).a∧(c.segments.getD i dG).a < c.points.length∧0≤(c.segments.getD i dG).b∧(c.segments.getD i dG).b < c.points.length:=by
 simp only [zva,jJ,decide_eq_true_eq] at h
 refine ⟨h.1.1.1,fun i hi=>?_⟩
 have:=h.2 i hi
 simp only [zu9,zu7,jJ,decide_eq_true_eq] at this
 exact ⟨this.1.1,this.1.2.1,this.1.2.2.1,this.1.2.2.2.1⟩
theorem zBk {c:zFb} {f:List DShip} {p:DPassage} (h:zvI c f p=true):zva c=true∧0≤p.seg∧p.seg < c.segments.length∧0≤p.start∧p.start < p.fin∧p.fin≤2880:=by
 rw [zvI,jJ,jJ,zvH,jJ,decide_eq_true_eq,decide_eq_true_eq] at h
 obtain ⟨⟨h1,h2⟩,⟨h3,h4,h5,h6,h7,h8,h9⟩,h10⟩:=h
 have hm:=zBh (s:=f.getD p.ship.toNat dH) (zBi h1 (i:=p.seg.toNat) (by omega))
 rw [zjz (by omega)] at h10
 exact ⟨h1,h5,h6,h7,by omega,h9⟩
theorem zBl {c:zFb} (h:zva c=true) {p:DPassage} (h0:0≤p.seg) (h1:p.seg < c.segments.length):0≤(zvF c p).1∧(zvF c p).1 < 8∧0≤(zvF c p).2∧(zvF c p).2 < 8:=by
 obtain ⟨h2,h3⟩:=zBj h
 have:=h3 p.seg.toNat (by omega)
 unfold zvF
 split <;> (dsimp only;omega)
theorem zBm {c:zFb} {f:List DShip} {p q:DPassage} (h:zvI c f p=true) (h2:zvI c f q=true) (hpq:p.start < q.fin):zz1 (zxA c p q)=true:=by
 obtain ⟨a1,a2,a3,a4,a5,a6⟩:=zBk h
 obtain ⟨_,b2,b3,b4,b5,b6⟩:=zBk h2
 have e1:=zBl a1 a2 a3
 have e2:=zBl a1 b2 b3
 unfold zz1 zxA
 rw [decide_eq_true_eq]
 dsimp only
 omega
theorem zKg {c:zFb} {f:List DShip} {l:List DPassage} {d:List DDuty} (h:zJ4 c f l=some d):zz2 d=true:=by
 rw [zJ4] at h
 split at h
 ·rename_i hq
  simp only [Option.some.injEq] at h
  subst h
  rw [zz2,jJ,decide_eq_true_eq,List.all_eq_true]
  refine ⟨hq.2,fun x hx=>?_⟩
  obtain ⟨y,hy,hxy⟩:=List.mem_flatMap.1 hx
  obtain ⟨i,hi,rfl⟩:=List.getElem_of_mem hy
  have hp:=hq.1 i hi
  rw [pOk,qget hi] at hp
  rw [(List.mem_replicate.1 hxy).2]
  exact zBm hp hp (zBk hp).2.2.2.2.1
 ·cases h
def zKh (w:zE8) (c:zFb) (f:List DShip) (l:List DPassage):Int:=match zJ4 c f l with
 | none=>-1
 | some d=>if zvn w=true then (zA6 0 w.moves d).2.1 else -1
theorem zBn {w:zE8} (h:zvn w=true):In w.rest 0 2880=true∧zvm w.moves=true:=by
 simp only [zvn,jJ] at h
 exact h.2
theorem zBo (w:DCrew):(Con.con w).moves=w.moves.l:=con_ints
theorem zKi (w:DCrew) (c:DChart) (f:Sl DShip) (a:Sl DPassage) (h:Hp) (hw:Enc.ok h w) (hc:Enc.ok h c) (hf:f.Ok h) (ha:a.Ok h):Ct jV 13 [w.v,c.v,f.val,a.val] h fun v h'=>v=.int .i64 (zKh (Con.con w) (Con.con c) f.l a.l)∧h'=h:=by
 refine Ct.forget ?_
 refine zdn (fun A W=>by simp) Tryz.func13 rfl rfl (by simp) fun W0=>?_
 refine Wk ?_
 refine zkj (zKe c f a _ hc hf ha) rfl ?_
 rintro v h1 le1 ⟨s,rfl,e1,ok1,m1⟩
 have hw1:Enc.ok h1 w:=Enc.mono le1 hw
 repeat' first|refine Wa ?_|refine zhF (fun _=>zvx w _ hw1) ?_|(simp only [go_sem,jq,jj,jy,jv,jk,jx];try rfl)|refine Wb ?_|fail
 refine zc9 rfl (fun hq=>?_) (fun hq=>?_)
 ·simp only [jQ,Bool.not_eq_true',Option.isSome_eq_false_iff,Option.isNone_iff_eq_none] at hq
  refine Wk ?_
  rw [zKh]
  rcases hq with hq|hq
  ·rw [hq]
  ·cases zJ4 (Con.con c) f.l a.l with
   | none=>rfl
   | some d=>dsimp only;rw [if_neg (by rw [hq];exact Bool.false_ne_true)]
 simp only [jp,Bool.not_eq_false'] at hq
 obtain ⟨hS,hC⟩:=hq
 obtain ⟨d,hd⟩:=Option.isSome_iff_exists.1 hS
 rw [hd] at e1
 have e1:s.l=d:=e1
 refine Wk ?_
 refine zkj (zBg 0 w.moves s _ hw1.2.2.2 ok1) rfl ?_
 rintro v h2 le2 ⟨s2,rfl,e2,ok2,m2⟩
 refine Wk ?_
 rw [zKh,hd]
 dsimp only
 rw [if_pos hC,zBo,e1]
theorem zKj (w:DCrew) (c:DChart) (f:Sl DShip) (a:Sl DPassage) (h:Hp) (hw:Enc.ok h w) (hc:Enc.ok h c) (hf:f.Ok h) (ha:a.Ok h):Ct jV 13 [w.v,c.v,f.val,a.val] h fun v h'=>v=.int .i64 (zKh (Con.con w) (Con.con c) (Con.con f) (Con.con a))∧h'=h:=by
 rw [zu4,zxH];exact zKi w c f a h hw hc hf ha
def pilL (c:zFb) (f:List DShip) (l:List (List DPassage)):List DDuty:=(l.filter fun x=>decide (0 < x.length)).map fun x=>(zxB c f x).1
def zBp (c:zFb) (f:List DShip) (l:List (List DPassage)):Prop:=∀ x ∈ l,0 < x.length→(zxB c f x).2=true
noncomputable def zBq (w:zE8) (c:zFb) (f:List DShip) (l:List (List DPassage)):Int:=open Classical in
 if zvn w=true∧zBp c f l∧(pilL c f l).length≤12 then (zA6 w.rest w.moves (pilL c f l)).2.1 else -1
noncomputable def zKk (w:zE8) (c:zFb) (f:List DShip) (l:List (List DPassage)):Bool:=In (zKh w c f l.flatten) 0 w.tugs && In (zBq w c f l) 0 w.pilots
theorem zBr {c:zFb} {f:List DShip} {l:List DPassage} (hC:zxr c l=true) (hp:∀ i,i < l.length→pOk c f l i=true):∀ k,k < l.length→(l.getD 0 dQ).start < (l.getD k dQ).fin
 | 0,hk=>(zBk (hp 0 hk)).2.2.2.2.1
 | k+1,hk=>by
  have ih:=zBr hC hp k (by omega)
  have h1:=(zBk (hp (k+1) hk)).2.2.2.2.1
  have h2:=of_decide_eq_true (Bool.and_eq_true_iff.1 hC).2 (k+1) hk
  rw [chOk,jJ] at h2
  have h3:=h2.2
  rw [chTo,jQ,decide_eq_true_eq,jJ,decide_eq_true_eq,decide_eq_true_eq] at h3
  simp only [Nat.add_sub_cancel] at h3
  rcases h3 with h3|h3
  ·omega
  ·have:=h3.2;omega
theorem zBs {c:zFb} {f:List DShip} {l:List DPassage} (h:(zxB c f l).2=true):zz1 (zxB c f l).1=true:=by
 rw [zxB] at h ⊢
 split
 ·rename_i hq
  simp only [jJ,decide_eq_true_eq] at hq
  obtain ⟨⟨h0,hC⟩,hp⟩:=hq
  exact zBm (hp 0 h0) (hp (l.length - 1) (by omega)) (zBr hC hp _ (by omega))
 ·rename_i hq;rw [if_neg hq] at h;cases h
theorem zBt {c:zFb} {f:List DShip} {l:List (List DPassage)} (h:zBp c f l) (h12:(pilL c f l).length≤12):zz2 (pilL c f l)=true:=by
 rw [zz2,jJ,decide_eq_true_eq,List.all_eq_true]
 refine ⟨h12,fun x hx=>?_⟩
 obtain ⟨y,hy,rfl⟩:=List.mem_map.1 hx
 have:=List.mem_filter.1 hy
 exact zBs (h y this.1 (of_decide_eq_true this.2))
theorem zBu {c:zFb} {f:List DShip} {l:List (List DPassage)} {x:List DPassage} (h:0 < x.length):pilL c f (l ++ [x])=pilL c f l ++ [(zxB c f x).1]:=by
 rw [pilL,List.filter_append,List.map_append]
 simp [pilL,h]
theorem zBv {c:zFb} {f:List DShip} {l:List (List DPassage)} {x:List DPassage} (h:x.length=0):pilL c f (l ++ [x])=pilL c f l:=by
 rw [pilL,List.filter_append,List.map_append]
 simp [pilL,h]
theorem zBw {c:zFb} {f:List DShip} {l:List (List DPassage)}:(pilL c f l).length≤l.length:=by
 rw [pilL,List.length_map];exact List.length_filter_le _ _
theorem zKl (s:Sl (Sl DPassage)):Con.con s=s.l.map (·.l):=by
 show List.map _ _=_
 exact List.map_congr_left fun x _=>zxH x
theorem zBx {l:List (Sl DPassage)} {k:Nat} (hk:k < l.length):(l.take (k+1)).map (·.l)=(l.take k).map (·.l) ++ [l[k].l]:=by rw [List.take_succ_eq_append_getElem hk,List.map_append];rfl
theorem zBy {c:zFb} {f:List DShip} {l:List (List DPassage)} {x:List DPassage} (h:zBp c f l) (hx:0 < x.length→(zxB c f x).2=true):zBp c f (l ++ [x]):=fun y hy h0=>by
 rcases List.mem_append.1 hy with hy|hy
 ·exact h y hy h0
 ·rw [List.mem_singleton.1 hy] at h0 ⊢;exact hx h0
theorem zBz {c:zFb} {f:List DShip} {w:zE8} {l:List (List DPassage)} {x:List DPassage} (hx:x ∈ l) (h0:0 < x.length) (h:(zxB c f x).2=false):zBq w c f l=-1:=by
 rw [zBq,if_neg]
 rintro ⟨-,hp,-⟩
 rw [hp x hx h0] at h;cases h
theorem zKm {l:List DPassage} {u:Value} (hu:u ∈ l.flatMap Enc.enc):u.oneCell'=true:=by
 obtain ⟨x,_,hu⟩:=List.mem_flatMap.1 hu
 exact Enc.one x u hu
theorem zKn {a:Sl (Sl DPassage)} {B:Nat} (hz:Sz.sz (Con.con a)≤B):(a.l.flatMap (·.l)).length≤B∧a.l.length≤B:=by
 have key:∀ l:List (Sl DPassage),(l.flatMap (·.l)).length+l.length≤((l.map fun x=>Con.con x).map Sz.sz).sum+(l.map fun x=>Con.con x).length:=fun l=>by
  induction l with
  | nil=>simp
  | cons x l ih =>
   rw [List.flatMap_cons,List.length_append,List.map_cons,List.map_cons,List.sum_cons,List.length_cons,List.length_cons]
   have:x.l.length≤Sz.sz (Con.con x):=by
    rw [zmu];have:(Con.con x).length=x.l.length:=List.length_map ..;omega
   omega
 have h1:=key a.l
 rw [zmu] at hz
 have:Con.con a=a.l.map fun x=>Con.con x:=rfl
 rw [this] at hz
 omega
theorem zBA {c:DChart} {f:List DShip} {l:List (Sl DPassage)} {h:Hp} (hc:Enc.ok h c) (hl:∀ x ∈ l,x.Ok h):∀ d ∈ pilL (Con.con c) f (l.map (·.l)),Enc.ok h d:=fun d hd=>by
 obtain ⟨y,hy,rfl⟩:=List.mem_map.1 hd
 obtain ⟨x,hx,rfl⟩:=List.mem_map.1 (List.mem_filter.1 hy).1
 have:=zxI (f:=f) (h2:=h) hc (hl x hx)
 rwa [zxH] at this
theorem zBB (w:DCrew) (c:DChart) (f:Sl DShip) (a:Sl (Sl DPassage)) (h:Hp) (hw:Enc.ok h w) (hc:Enc.ok h c) (hf:f.Ok h) (ha:a.Ok h) (hz:a.l.length≤1048576):Ct jV 14 [w.v,c.v,f.val,a.val] h fun v h'=>v=.int .i64 (zBq (Con.con w) (Con.con c) f.l (a.l.map (·.l)))∧h'=h:=by
 have hl:=ha.max
 refine Ct.forget ?_
 refine zdn (fun A W=>by simp) Tryz.func14 rfl rfl (by simp) fun W0=>?_
 refine Wk ?_
 refine zl0 (ι:=Nat) (fun k=>⟨[(2,true,.c (.v f.val)),(4,true,.c (.p 0 0)),(5,true,.c (.p 1 0)),(8,true,.c (.v (.int .i64 0))),(9,true,.c (.s 2)),(18,true,.c (.v a.val)),(19,true,.c (.v (.int .i64 a.l.length))),(20,true,.c (.v (.int .i64 k)))],[(0,.box 38 [.v (.int .i64 w.tugs),.v (.int .i64 w.pilots),.v (.int .i64 w.rest),.v w.moves.val]),(1,.box 32 [.v c.points.val,.v c.segments.val]),(2,.row 108 4 (pilL (Con.con c) f.l ((a.l.take k).map (·.l))).length ((pilL (Con.con c) f.l ((a.l.take k).map (·.l))).flatMap Enc.enc))],h,3⟩) (fun k=>k≤a.l.length∧zBp (Con.con c) f.l ((a.l.take k).map (·.l))) (fun k=>a.l.length - k) 0 ⟨Nat.zero_le _,fun x hx=>by cases hx⟩ [0,1,2] ?_ ?_
 ·refine Evs ?_
  exact Gk
 intro k hk
 have hpl:=zBw (c:=Con.con c) (f:=f.l) (l:=(a.l.take k).map (·.l))
 rw [List.length_map,List.length_take] at hpl
 refine Wk ?_
 refine zc9 rfl (fun hd=>?_) (fun hd=>?_)
 ·have hlt:=zjH hd
  have hok:=ha.el hlt
  repeat' first|refine Wa ?_|(simp only [go_sem,jq,jj,jy,jv,jk,jx,zku ha hlt,ha.some hlt,hlt,jW];try rfl)|refine Wb ?_|fail
  refine zc9 rfl (fun hx=>?_) (fun hx=>?_)
  ·have hx:a.l[k].l.length=0:=by have:=eq_of_beq hx;omega
   refine Wk ?_
   refine ⟨k+1,[0,1,2],⟨hlt,by rw [zBx hlt];exact zBy hk.2 (fun h0=>by omega)⟩,by omega,?_⟩
   refine Evs ?_
   rw [zBx hlt,zBv hx]
   exact Gi (zjA hlt (by omega))
  have hx:0 < a.l[k].l.length:=by have:=ne_of_beq_false hx;omega
  have hmem:a.l[k].l ∈ a.l.map (·.l):=List.mem_map_of_mem (List.getElem_mem hlt)
  repeat' first|refine Wa ?_|refine zhF (fun _=>zxG c f a.l[k] _ hc hf hok) ?_|(simp only [go_sem,jq,jj,jy,jv,jk,jx];try rfl)|refine Wb ?_|fail
  refine zc9 rfl (fun hy=>?_) (fun hy=>?_)
  ·rw [Bool.not_eq_true'] at hy
   rw [zBz hmem hx hy]
   exact Wk0
  rw [Bool.not_eq_false'] at hy
  refine Wk ?_
  refine ⟨by simp only [maxLen];omega,by omega,?_⟩
  refine Wk ?_
  refine ⟨k+1,[0,1,5],⟨hlt,by rw [zBx hlt];exact zBy hk.2 (fun _=>hy)⟩,by omega,?_⟩
  refine Evs ?_
  rw [zBx hlt,zBu hx,List.flatMap_append,List.length_append]
  exact Gi (zjA hlt (by omega))
 ·have hge:=zjI hd
  have hke:k=a.l.length:=by omega
  have hkp:=hk.2
  rw [hke,List.take_length] at hkp
  have e0:(a.l.take k).map (·.l)=a.l.map (·.l):=by rw [hke,List.take_length]
  rw [e0]
  refine zc6 ?_
  refine Evs ?_
  repeat' first|refine Wa ?_|refine zhF (fun _=>zvx w _ hw) ?_|(simp only [go_sem,jq,jj,jy,jv,jk,jx];try rfl)|refine Wb ?_|fail
  refine zc9 rfl (fun hq=>?_) (fun hq=>?_)
  ·refine Wk ?_
   rw [zBq,if_neg]
   rintro ⟨h1,-,h2⟩
   rw [h1] at hq
   simp only [Bool.not_true,Bool.false_or] at hq
   have hq:=of_decide_eq_true hq
   omega
  rw [jp,Bool.not_eq_false'] at hq
  obtain ⟨hC,h12⟩:=hq
  have h12:=of_decide_eq_false h12
  refine zlE 2 (pilL (Con.con c) f.l (a.l.map (·.l))) rfl rfl rfl rfl (by decide) (zBA hc ha.2.2.2.1) h (Hp.le_refl _) (Mines.flat (fun _=>rfl) (fun _=>trivial)) fun s h' e1 e2 e3 e4=>?_
  have hw1:Enc.ok h' w:=Enc.mono e3 hw
  refine Wk ?_
  refine zkj (zBg w.rest w.moves s _ hw1.2.2.2 e2) rfl ?_
  rintro v h2 le2 ⟨s2,rfl,e5,ok2,m2⟩
  rw [e1]
  refine Wk ?_
  rw [zBq,if_pos ⟨hC,hkp,by omega⟩,zBo];rfl
theorem zKo (w:DCrew) (c:DChart) (f:Sl DShip) (a:Sl (Sl DPassage)) (h:Hp) (hw:Enc.ok h w) (hc:Enc.ok h c) (hf:f.Ok h) (ha:a.Ok h) (hz:Sz.sz (Con.con a)≤1048576):Ct jV 14 [w.v,c.v,f.val,a.val] h fun v h'=>v=.int .i64 (zBq (Con.con w) (Con.con c) (Con.con f) (Con.con a))∧h'=h:=by
 have hz2:a.l.length≤1048576:=by rw [zmu] at hz;have:(Con.con a).length=a.l.length:=List.length_map ..;omega
 rw [zu4,zKl];exact zBB w c f a h hw hc hf ha hz2
theorem zKp (w:DCrew) (c:DChart) (f:Sl DShip) (a:Sl (Sl DPassage)) (h:Hp) (hw:Enc.ok h w) (hc:Enc.ok h c) (hf:f.Ok h) (ha:a.Ok h) (hz:(a.l.flatMap (·.l)).length≤1048576) (hz2:a.l.length≤1048576):Ct jV 19 [w.v,c.v,f.val,a.val] h fun v h'=>v=.bool (zKk (Con.con w) (Con.con c) f.l (a.l.map (·.l)))∧h'=h:=by
 have hl:=ha.max
 refine Ct.forget ?_
 refine zdn (fun A W=>by simp) Tryz.func19 rfl rfl (by simp) fun W0=>?_
 refine Wk ?_
 refine zl0 (ι:=Nat) (fun k=>⟨[(2,true,.c (.v f.val)),(3,true,.c (.v a.val)),(4,true,.c (.p 0 0)),(5,true,.c (.p 1 0)),(8,true,.c (.v (.bool false))),(9,true,.c (.s 2)),(13,true,.c (.v a.val)),(14,true,.c (.v (.int .i64 a.l.length))),(15,true,.c (.v (.int .i64 k)))],[(0,.box 38 [.v (.int .i64 w.tugs),.v (.int .i64 w.pilots),.v (.int .i64 w.rest),.v w.moves.val]),(1,.box 32 [.v c.points.val,.v c.segments.val]),(2,.row 55 5 ((a.l.take k).flatMap (·.l)).length (((a.l.take k).flatMap (·.l)).flatMap Enc.enc))],h,3⟩) (fun k=>k≤a.l.length) (fun k=>a.l.length - k) 0 (Nat.zero_le _) [0,1,2] ?_ ?_
 ·refine Evs ?_
  exact Gk
 intro k hk
 refine Wk ?_
 refine zc9 rfl (fun hd=>?_) (fun hd=>?_)
 ·have hlt:=zjH hd
  have hok:=ha.el hlt
  have hall:h.ldL a.l[k].val 5=some (a.l[k].l.flatMap Enc.enc):=Sl.Ok.all hok (by decide)
  have hfl:(a.l.take (k+1)).flatMap (·.l)=(a.l.take k).flatMap (·.l) ++ a.l[k].l:=by rw [List.take_succ_eq_append_getElem hlt,List.flatMap_append];simp
  have hle:((a.l.take (k+1)).flatMap (·.l)).length≤(a.l.flatMap (·.l)).length:=by
   rw [← List.take_append_drop (k+1) a.l,List.flatMap_append,List.take_append_drop,List.length_append];omega
  rw [hfl,List.length_append] at hle
  repeat' first|refine Wa ?_|(simp only [go_sem,jq,jj,jy,jv,jk,jx,zku ha hlt,ha.some hlt,hlt,jW];try rfl)|refine Wb ?_|fail
  simp only [hall,Option.isSome_some,Option.getD_some,← hfl,← List.flatMap_append,← List.length_append]
  refine ⟨trivial,fun u hu=>zKm hu,by simp only [maxLen];rw [hfl,List.length_append];omega,by rw [hfl,List.length_append];omega,?_⟩
  refine Wk ?_
  refine ⟨k+1,[0,1,3],hlt,by omega,?_⟩
  refine Evs ?_
  exact Gi (zjA hlt (by omega))
 ·have hge:=zjI hd
  have hke:k=a.l.length:=by omega
  have e0:(a.l.take k).flatMap (·.l)=a.l.flatMap (·.l):=by rw [hke,List.take_length]
  have ef:(a.l.map (·.l)).flatten=a.l.flatMap (·.l):=by rw [List.flatMap_def]
  rw [e0]
  refine zc6 ?_
  refine Evs ?_
  refine zlE 2 (a.l.flatMap (·.l)) rfl rfl rfl rfl (by decide) (fun x hx=>?_) h (Hp.le_refl _) (Mines.flat (fun _=>rfl) (fun _=>trivial)) fun s h' e1 e2 e3 e4=>?_
  ·obtain ⟨y,hy,hx⟩:=List.mem_flatMap.1 hx
   exact (ha.2.2.2.1 y hy).2.2.2.1 x hx
  have hw1:Enc.ok h' w:=Enc.mono e3 hw
  have hc1:Enc.ok h' c:=Enc.mono e3 hc
  have hf1:=hf.mono e3
  have ha1:=ha.mono e3
  refine Wk ?_
  refine znv rfl ?_
  refine U_t [0,1,2,3,5,6] rfl ?_
  refine Evs ?_
  refine U_1 4 0 [6,5] rfl rfl ?_
  refine Evs ?_
  refine zhF (fun _=>zKi w c f s _ hw1 hc1 hf1 e2) ?_
  refine Evs ?_
  refine U_1 7 0 [] rfl rfl ?_
  refine Evs ?_
  refine zhF (fun _=>zum _ _ _ _) ?_
  refine Evs ?_
  refine U_t [8,9,10,11,12,14,15] rfl ?_
  refine Evs ?_
  refine U_1 13 0 [15,14] rfl rfl ?_
  refine Evs ?_
  refine zhF (fun _=>zBB w c f a _ hw1 hc1 hf1 ha1 hz2) ?_
  refine Evs ?_
  refine U_1 16 0 [] rfl rfl ?_
  refine Evs ?_
  refine zhF (fun _=>zum _ _ _ _) ?_
  refine Evs ?_
  refine U_t [17,18] rfl ?_
  refine Evs ?_
  refine U_d ?_
  refine Wk ?_
  rw [zKk,e1,ef]
  rfl
theorem zKq (w:DCrew) (c:DChart) (f:Sl DShip) (a:Sl (Sl DPassage)) (h:Hp) (hw:Enc.ok h w) (hc:Enc.ok h c) (hf:f.Ok h) (ha:a.Ok h) (hz:Sz.sz (Con.con a)≤1048576):Ct jV 19 [w.v,c.v,f.val,a.val] h fun v h'=>v=.bool (zKk (Con.con w) (Con.con c) (Con.con f) (Con.con a))∧h'=h:=by
 have hz2:=zKn hz
 rw [zu4,zKl];exact zKp w c f a h hw hc hf ha hz2.1 hz2.2
def zBC (c:zFb) (f:List DShip) (l:List DPassage):Prop:=0 < l.length∧zxr c l=true∧∀ i,i < l.length→pOk c f l i=true
theorem zBD {l:List Int} {x:Int} {i:Nat} (hi:i < l.length):(l ++ [x]).getD i 0=l.getD i 0:=by rw [List.getD_eq_getElem?_getD,List.getElem?_append_left hi,← List.getD_eq_getElem?_getD]
theorem zBE {l:List Int} {x:Int} {k:Nat} (h:l.length=k):(l ++ [x]).getD k 0=x:=by subst h;simp only [List.getD_eq_getElem?_getD,List.getElem?_concat_length,Option.getD_some]
theorem zBF {w:List Bool} {m:List Int} {u:List (List DWindow)} {st:Int}:∀ {k:Nat} {l:List Int},slK w m u st k=some l→∀ i,i < k→IntKind.i64.wrap (l.getD i 0+m.getD i 0)≤l.getD (i+1) 0
 | 0,_,_,i,hi=>absurd hi (Nat.not_lt_zero i)
 | k+1,l,h,i,hi=>by
  rw [slK] at h
  obtain ⟨p,hp,h⟩:=Option.bind_eq_some_iff.1 h
  have hl:=zyw hp
  unfold zyr at h
  dsimp only at h
  split at h
  ·cases h
  ·rename_i hc
   rw [not_or] at hc
   have e:=Option.some.inj h
   rw [← e]
   rcases Nat.lt_or_ge i k with hik|hik
   ·rw [zBD (by omega),zBD (by omega)]
    exact zBF hp i hik
   ·obtain rfl:i=k:=by omega
    rw [zBD (by omega),zBE hl]
    exact zyp (by omega)
theorem zBG {g:List DSegment} {a:Int} {r:List Int}:∀ {k:Nat} {l:List Int},ptsK g a r k=some l→∀ i,i < k→l.getD (i+1) 0=zwS (g.getD (r.getD i 0).toNat dG) (l.getD i 0)∧0≤zwS (g.getD (r.getD i 0).toNat dG) (l.getD i 0)
 | 0,_,_,i,hi=>absurd hi (Nat.not_lt_zero i)
 | k+1,l,h,i,hi=>by
  obtain ⟨p,hp,hs⟩:=zw3 h
  have hl:=zw4 hp
  obtain ⟨_,h2,_,e⟩:=zw1 hs
  rw [zw7 hl] at h2 e
  rw [e]
  rcases Nat.lt_or_ge i k with hik|hik
  ·rw [zBD (by omega),zBD (by omega)]
   exact zBG hp i hik
  ·obtain rfl:i=k:=by omega
   rw [zBE hl,zBD (by omega)]
   exact ⟨rfl,h2⟩
theorem zBH {s:DSegment} {p:Int} (h:0≤zwS s p):(p=s.a∧zwS s p=s.b)∨(p ≠ s.a∧p=s.b∧zwS s p=s.a):=by
 unfold zwS at h ⊢
 split at h
 ·rename_i h1;exact .inl ⟨h1,by rw [if_pos h1]⟩
 ·rename_i h1
  split at h
  ·rename_i h2;exact .inr ⟨h1,h2,by rw [if_neg h1,if_pos h2]⟩
  ·exact absurd h (by decide)
theorem zBI {c:zFb} {ship:Int} {s:DShip} {pts r st:List Int} {k i:Nat} (hi:i < k):(pasL c ship s pts r st k).getD i dQ=zxL c ship s pts r st i:=by
 rw [pasL,List.getD_eq_getElem?_getD,List.getElem?_map,List.getElem?_range hi];rfl
theorem zBJ {x:DHarbour} {a:DCall} {r:List Int} (hok:zvB (Con.con x) a=true) (hcv:cvOk (Con.con x) a r=true) {st:Int} (hst:a.ready≤st∧st≤a.due) (h2:(zyJ (Con.con x) a r st).2=true):zBC (Con.con x.chart) x.fleet.l (zyJ (Con.con x) a r st).1.pas:=by
 obtain ⟨_,hC,⟨hsi,hsh,hso⟩,hs0,hs1,_,_,_,_,_,hr0,hr1,hr2,hr3⟩:=zyE hok
 have hFl:zvk x.fleet.l=true:=by
  rw [zvB,zvo,jJ,jJ,jJ,jJ,jJ,show (Con.con x).fleet=x.fleet.l from zu4 _] at hok
  exact hok.1.1.1.2
 have hv:voOk (Con.con x.forecast) (Con.con x.chart) (zyD (Con.con x) a) a.src r=true:=by
  rw [cvOk,jJ] at hcv;exact hcv.2
 have hR:zxf (Con.con x.chart) a.src r=true:=by
  rw [zyF hok,jJ] at hv;exact hv.1
 have hlen0:0 < r.length:=by
  rw [zyF hok,jJ,decide_eq_true_eq] at hv;exact hv.2
 obtain ⟨_,hin,pl,hptl,hpk,hplen,hpx⟩:=zxi hR
 have hrl:r.length≤8:=by have:=zxZ hC (zw5 hpk) hpx;omega
 have hrg:∀ i,i < r.length→0≤r.getD i 0∧r.getD i 0 < (Con.con x.chart).segments.length:=fun i hi=>by
  rw [iget hi];exact zxj hpk (Nat.le_refl _) i hi hi
 have hmi:∀ i,i < (minL (Con.con x.chart) (zyD (Con.con x) a) r r.length).length→1≤(minL (Con.con x.chart) (zyD (Con.con x) a) r r.length).getD i 0∧(minL (Con.con x.chart) (zyD (Con.con x) a) r r.length).getD i 0≤480:=fun i hi=>by
  rw [minL,rmap_len] at hi
  rw [zzr hi]
  exact zzj (zzk hC (by have:=hrg i hi;omega))
 have hml:(minL (Con.con x.chart) (zyD (Con.con x) a) r r.length).length=r.length:=by rw [minL,rmap_len]
 unfold zyJ at h2 ⊢
 rw [show (Con.con x).forecast=Con.con x.forecast from rfl,show (Con.con x).chart=Con.con x.chart from rfl] at h2 ⊢
 cases hs:zyB (Con.con x.forecast) (Con.con x.chart) (zyD (Con.con x) a) a.src r st with
 | none=>rw [hs] at h2;cases h2
 | some l =>
  rw [hs] at h2
  dsimp only at h2 ⊢
  have h3:=hs
  rw [zyB,if_pos hv,zys] at h3
  split at h3
  ·rw [show (zym (Con.con x.forecast) (Con.con x.chart) (zyD (Con.con x) a) r r.length).length=r.length by rw [zym,rmap_len]] at h3
   obtain ⟨h4,h5,h6⟩:=zzo (by omega) hmi (by omega) h3
   have hpo:arOk (Con.con x.chart) (zyD (Con.con x) a) r l=true:=by
    rw [arOk,jJ,jJ,jJ,Bool.not_eq_true',decide_eq_false_iff_not,decide_eq_true_eq,decide_eq_true_eq,hsh]
    refine ⟨⟨⟨?_,hso⟩,hlen0⟩,by omega⟩
    rw [zxn,if_pos ⟨hC,fun i hi=>by
     rw [rmOk,decide_eq_true_eq];exact hrg i hi⟩]
    have:=zzs hC (fun i hi=>zxj hpk (Nat.le_refl _) i hi hi) hrl (k:=r.length) (Nat.le_refl _)
    rw [List.take_length] at this
    omega
   have hA:zxJ (Con.con x.chart) (zyD (Con.con x) a) r l=IntKind.i64.wrap (l.getD (r.length - 1) 0+zvG (zyD (Con.con x) a) ((Con.con x.chart).segments.getD (r.getD (r.length - 1) 0).toNat dG)):=by
    have h7:=h5 (r.length - 1) (Nat.le_refl _)
    rw [zxJ,if_pos hpo,if_pos (by rw [In,jJ,decide_eq_true_eq,decide_eq_true_eq];exact h7)]
   have hle:zxJ (Con.con x.chart) (zyD (Con.con x) a) r l≤2880:=of_decide_eq_true h2
   have hstep:∀ i,i+1 < r.length→IntKind.i64.wrap (l.getD i 0+zvG (zyD (Con.con x) a) ((Con.con x.chart).segments.getD (r.getD i 0).toNat dG))≤l.getD (i+1) 0:=fun i hi=>by
    have:=zBF h3 i (by omega)
    rwa [zzr (by omega)] at this
   have hfin:∀ i,i < r.length→IntKind.i64.wrap (l.getD i 0+zvG (zyD (Con.con x) a) ((Con.con x.chart).segments.getD (r.getD i 0).toNat dG))≤2880:=fun i hi=>by
    rcases Nat.lt_or_ge (i+1) r.length with h8|h8
    ·have:=hstep i h8
     have:=h5 (i+1) (by omega)
     omega
    ·obtain rfl:i=r.length - 1:=by omega
     rw [hA] at hle;exact hle
   show zBC _ _ (zxN (Con.con x.chart) a.ship (zyD (Con.con x) a) a.src r l)
   have hP:zxN (Con.con x.chart) a.ship (zyD (Con.con x) a) a.src r l=pasL (Con.con x.chart) a.ship (zyD (Con.con x) a) pl r l r.length:=by
    rw [zxN,if_pos,hptl]
    ·rfl
    ·refine ⟨?_,fun i hi=>?_⟩
     ·rw [zxM,jJ,jJ,decide_eq_true_eq,hsh]
      exact ⟨⟨hR,hso⟩,by omega⟩
     ·rw [In,jJ,decide_eq_true_eq,decide_eq_true_eq];exact h5 i (by omega)
   rw [hP]
   refine ⟨by rw [zxQ];exact hlen0,?_,fun i hi=>?_⟩
   ·rw [zxr,jJ,decide_eq_true_eq]
    refine ⟨hC,fun i hi=>?_⟩
    rw [zxQ] at hi
    rw [chOk,chIn,chTo,zBI hi,zBI hlen0,zBI (show i - 1 < r.length by omega)]
    simp only [jJ,jQ,decide_eq_true_eq]
    refine ⟨⟨rfl,hrg i hi⟩,?_⟩
    rcases Nat.eq_zero_or_pos i with h0|h0
    ·exact .inl h0
    ·refine .inr ⟨?_,?_⟩
     ·have e1:=zBG hpk i hi
      have e2:=zBG hpk (i - 1) (by omega)
      rw [show i - 1+1=i by omega] at e2
      have f1:=zBH e1.2
      have f2:=zBH e2.2
      show (if (pl.getD i 0 == ((Con.con x.chart).segments.getD (r.getD i 0).toNat dG).a)=true then _ else _:Int × Int).1=(if (pl.getD (i - 1) 0 == ((Con.con x.chart).segments.getD (r.getD (i - 1) 0).toNat dG).a)=true then _ else _:Int × Int).2
      have g1:(zvF (Con.con x.chart) (zxL (Con.con x.chart) a.ship (zyD (Con.con x) a) pl r l i)).1=pl.getD i 0:=by
       unfold zvF zxL
       dsimp only
       rcases f1 with f1|f1
       ·rw [if_pos (by rw [beq_iff_eq];exact f1.1)];exact f1.1.symm
       ·rw [if_neg (by rw [beq_iff_eq];exact f1.1)];exact f1.2.1.symm
      have g2:(zvF (Con.con x.chart) (zxL (Con.con x.chart) a.ship (zyD (Con.con x) a) pl r l (i - 1))).2=pl.getD i 0:=by
       unfold zvF zxL
       dsimp only
       rcases f2 with f2|f2
       ·rw [if_pos (by rw [beq_iff_eq];exact f2.1)];rw [e2.1,f2.2]
       ·rw [if_neg (by rw [beq_iff_eq];exact f2.1)];rw [e2.1,f2.2.2]
      exact g1.trans g2.symm
     ·have:=hstep (i - 1) (by omega)
      rw [show i - 1+1=i by omega] at this
      exact this
   ·rw [zxQ] at hi
    rw [pOk,zBI hi,zvI,hC,hFl,Bool.true_and,Bool.true_and,zvH,jJ,decide_eq_true_eq,decide_eq_true_eq]
    refine ⟨⟨hs0,hs1,(hrg i hi).1,(hrg i hi).2,(h5 i (by omega)).1,(h5 i (by omega)).2,hfin i hi⟩,?_⟩
    show IntKind.i64.wrap (_+zvG (zyD (Con.con x) a) _)=IntKind.i64.wrap (_+zvG (x.fleet.l.getD a.ship.toNat dH) _)
    rw [hsh,hget hsi]
    rfl
  ·cases h3
theorem zBK {x:DHarbour} {a:DCall}:∀ y ∈ zy1 (Con.con x) a,zBC (Con.con x.chart) x.fleet.l y.pas:=by
 cases hok:zvB (Con.con x) a with
 | false=>rw [zy5 hok];intro y hy;cases hy
 | true =>
  rw [zy1,if_pos hok]
  obtain ⟨_,_,_,_,_,_,_,_,_,_,hr0,hr1,hr2,hr3⟩:=zyE hok
  cases hb:zyd (Con.con x).chart a.src a.dst with
  | none=>intro y hy;cases hy
  | some r =>
   dsimp only
   exact zzq hr0 hr3 (fun s h1 h2 h3=>zBJ hok (zy4 hok hb) ⟨h1,h2⟩ h3) (Int.le_refl _) (fun y hy=>by cases hy)
theorem zKr {x:DHarbour} {a:DCall} {o:POption} (h:zyW (Con.con x) a o=true):zBC (Con.con x.chart) x.fleet.l o.pas:=by
 cases hq:(zvB (Con.con x) a && In o.start a.ready a.due && cvOk (Con.con x) a (o.pas.map (·.seg)) && (zyJ (Con.con x) a (o.pas.map (·.seg)) o.start).2) with
 | false=>rw [zyW,zyS hq] at h;exact absurd h Bool.false_ne_true
 | true =>
  rw [zyW,zyR,if_pos hq,jJ] at h
  rw [jJ,jJ,jJ,In,jJ,decide_eq_true_eq,decide_eq_true_eq] at hq
  obtain ⟨⟨⟨h1,h2⟩,h3⟩,h4⟩:=hq
  have e:(zyJ (Con.con x) a (o.pas.map (·.seg)) o.start).1=o:=of_decide_eq_true h.2
  have:=zBJ h1 h3 h2 h4
  rw [e] at this
  exact this
def zBL (n:Nat) (m:List Int):Prop:=m.length=n∧(∀ i (hi:i < m.length),0≤m[i]∧m[i] < m.length)∧∀ i (hi:i < m.length),m.getD m[i].toNat 0=(i:Int)
noncomputable instance (n:Nat) (m:List Int):Decidable (zBL n m):=Classical.propDecidable _
def flr (l:List POption):Int:=if zuC l < 0 then -1 else (l.getD (zuC l).toNat zJX).cost
def zKs (x:zFc) (calls:List DCall):List (List POption):=calls.map (zy1 x)
theorem zKt {x:zFc} {l:List DCall} {i:Nat} (hi:i < l.length):(zKs x l).getD i []=zy1 x l[i]:=by
 rw [zKs,List.getD_eq_getElem?_getD,List.getElem?_map,List.getElem?_eq_getElem hi];rfl
theorem zKu {x:zFc} {l:List DCall}:(zKs x l).length=l.length:=List.length_map ..
theorem zKv {x:zFc} {l:List DCall} (h:zJJ x l=true):l.length≤6:=by
 simp only [zJJ,jJ,decide_eq_true_eq] at h
 exact h.1.2
theorem zKw (a b:Sl DOption) (h:Hp) (ha:a.Ok h) (hb:b.Ok h) (hz:Sz.sz (Con.con a)≤1048576):Ct jV 24 [a.val,b.val] h fun v h'=>∃ s:Sl Int,v=s.val∧Con.con s=zJF (Con.con a) (Con.con b)∧s.Ok h'∧Mine h h' s:=by
 have hl:=ha.max
 have hz1:=zmv hz
 rw [zmw] at hz1
 have hF:zJF (Con.con a) (Con.con b)=zJE (Con.con a) (Con.con b) (min a.l.length b.l.length):=by rw [zJF,zkq,zkq,List.length_map,List.length_map]
 rw [hF]
 refine zdn (fun A W=>by simp) Tryz.func24 rfl rfl (by simp) fun W0=>?_
 refine Wk ?_
 refine zl0 (ι:=Nat) (fun k=>⟨[(0,true,.c (.v a.val)),(1,true,.c (.v b.val)),(5,true,.c (.s 0)),(12,true,.c (.v (.int .i64 (min (a.l.length:Int) b.l.length)))),(13,true,.c (.v (.int .i64 k)))],[(0,.row 3 1 (zJE (Con.con a) (Con.con b) k).length ((zJE (Con.con a) (Con.con b) k).flatMap Enc.enc))],h,1⟩) (fun k=>k≤a.l.length∧k≤b.l.length) (fun k=>a.l.length - k) 0 ⟨Nat.zero_le _,Nat.zero_le _⟩ [0] ?_ ?_
 ·refine Evs ?_
  exact ⟨rfl,rfl,rfl⟩
 intro k hk
 refine Wk ?_
 refine zc9 rfl (fun hd=>?_) (fun hd=>?_)
 ·have hd':=of_decide_eq_true hd
  have hlt:k < a.l.length:=by omega
  have hlt':k < b.l.length:=by omega
  refine Wk ?_
  refine ziV rfl ?_
  refine zi3 [0,1,2,3,4,5,6,7] rfl (by kernel_rfl) ?_
  simp only [go_sem,jq,jj,jy,jv,jk,jx,zkC ha hlt,ha.some hlt,hlt,zkC hb hlt',hb.some hlt',hlt',jW]
  refine ziT [8] (by kernel_rfl) (by kernel_rfl) ?_
  simp only [go_sem,jq,jj,jy,jv,jk,jx,zkC ha hlt,ha.some hlt,hlt,zkC hb hlt',hb.some hlt',hlt',jW]
  refine zhF (fun _=>zuv _ _ _ (ha.el hlt) (hb.el hlt')) ?_
  simp only [go_sem,jq,jj,jy,jv,jk,jx,zkC ha hlt,ha.some hlt,hlt,zkC hb hlt',hb.some hlt',hlt',jW]
  refine ziU (by kernel_rfl) ?_
  refine Wk ?_
  refine zc9 rfl (fun hq=>?_) (fun hq=>?_)
  ·have hlk:=zJG (Con.con a) (Con.con b) k
   have hs:zJE (Con.con a) (Con.con b) (k+1)=zJE (Con.con a) (Con.con b) k ++ [(k:Int)]:=by
    show (if _ then _ else _)=_
    rw [if_pos]
    rw [zFf hlt,zFf hlt']
    exact congrArg some (of_decide_eq_true hq)
   refine Wk ?_
   refine ⟨by simp only [maxLen];omega,by omega,?_⟩
   refine Wk ?_
   refine ⟨k+1,[2],⟨hlt,hlt'⟩,by omega,?_⟩
   refine Evs ?_
   refine ⟨zjB (zjA hlt (by omega)),?_,rfl⟩
   rw [hs,List.length_append,List.flatMap_append]
   rfl
  ·have hs:zJE (Con.con a) (Con.con b) (k+1)=zJE (Con.con a) (Con.con b) k:=by
    show (if _ then _ else _)=_
    rw [if_neg]
    rw [zFf hlt,zFf hlt']
    exact fun e=>of_decide_eq_false hq (Option.some.inj e)
   refine Wk ?_
   refine ⟨k+1,[0],⟨hlt,hlt'⟩,by omega,?_⟩
   refine Evs ?_
   exact ⟨zjB (zjA hlt (by omega)),by rw [hs],rfl⟩
 ·have hge:=of_decide_eq_false hd
  have hke:k=min a.l.length b.l.length:=by omega
  refine zc6 ?_
  refine Evs ?_
  refine zlE 0 (zJE (Con.con a) (Con.con b) k) rfl rfl rfl rfl (by decide) (fun x hx=>by have:=zJH _ _ _ _ hx;show I64 x;unfold I64;omega) h (Hp.le_refl _) (Mines.flat (fun _=>rfl) (fun _=>trivial)) fun s h' e1 e2 e3 e4=>?_
  refine Wk ?_
  exact ⟨s,rfl,by rw [con_ints,e1,hke],e2,e4⟩
def zKx (a b:List POption):Int:=((max a.length b.length:Nat):Int) - (zJF a b).length
theorem zKy (a b:Sl DOption):zKx (Con.con a) (Con.con b)=((max a.l.length b.l.length:Nat):Int) - (zJE (Con.con a) (Con.con b) (min a.l.length b.l.length)).length:=by
 unfold zKx zJF
 rw [zmw,zmw]
set_option maxRecDepth 100000 in
theorem zKz (a b:Sl DOption) (h:Hp) (ha:a.Ok h) (hb:b.Ok h) (hz:Sz.sz (Con.con a)≤1048576):Ct jV 23 [a.val,b.val] h fun v h'=>v=.int .i64 (zKx (Con.con a) (Con.con b))∧h'=h:=by
 have hl:=ha.max
 have hl2:=hb.max
 have hF:zJF (Con.con a) (Con.con b)=zJE (Con.con a) (Con.con b) (min a.l.length b.l.length):=by rw [zJF,zmw,zmw]
 refine Ct.forget ?_
 refine zdn (fun A W=>by simp) Tryz.func23 rfl rfl (by simp) fun W0=>?_
 refine Wk ?_
 refine zkj (zKw _ _ _ ha hb hz) rfl ?_
 rintro v h1 le1 ⟨s,rfl,e1,ok1,m1⟩
 refine Wk ?_
 rw [con_ints,hF] at e1
 rw [e1,zKy]
 have:=zJG (Con.con a) (Con.con b) (min a.l.length b.l.length)
 congr 1
 rw [zjz (by omega)]
 omega
def Sel (n:Nat) (l:List Int):Prop:=∀ i,i < l.length→0≤l.getD i 0∧l.getD i 0 < n∧(0 < i→l.getD (i - 1) 0 < l.getD i 0)
instance (n:Nat) (l:List Int):Decidable (Sel n l):=inferInstanceAs (Decidable (∀ i,i < l.length→_))
theorem zKA {l:List Int} {i:Nat} (hi:i < l.length):l.getD i 0=l[i]:=by simp [List.getD_eq_getElem?_getD,hi]
theorem zKB (a:Sl DCall) (b:Sl Int) (h:Hp) (ha:a.Ok h) (hb:b.Ok h):Ct jV 68 [a.val,b.val] h fun v h'=>v=.bool (decide (Sel a.l.length b.l))∧h'=h:=by
 have hl:=hb.max
 refine zdn (fun A W=>by simp) Tryz.func68 rfl rfl (by simp) fun W0=>?_
 refine Wk ?_
 refine zde (ι:=Nat) (fun k=>⟨[(0,true,.c (.v a.val)),(1,true,.c (.v b.val)),(7,true,.c (.v b.val)),(8,true,.c (.v (.int .i64 b.l.length))),(9,true,.c (.v (.int .i64 k)))],[],h,0⟩) (fun k=>k≤b.l.length∧∀ i,i < k→0≤b.l.getD i 0∧b.l.getD i 0 < a.l.length∧(0 < i→b.l.getD (i - 1) 0 < b.l.getD i 0)) (fun k=>b.l.length - k) 0 ⟨Nat.zero_le _,fun i hi=>absurd hi (Nat.not_lt_zero _)⟩ ?_ ?_
 ·refine Evs ?_
  exact rfl
 intro k hk
 refine Wk ?_
 refine zc9 rfl (fun hd=>?_) (fun hd=>?_)
 ·have hlt:=zjH hd
  have hgd:=zKA hlt
  rcases Nat.eq_zero_or_pos k with h0|h0
  ·have hf:(0 < (k:Int))=False:=eq_false (by omega)
   repeat' first|refine Wa ?_|refine zhF (fun _=>zuo _ _ _) ?_|(simp only [go_sem,jq,jj,jy,jv,jk,jx,zkv hb hlt,hb.some hlt,hlt,hf,decide_false,Bool.and_false,Bool.false_and,Bool.or_false,Bool.false_eq_true,false_implies,implies_true,true_and,reduceCtorEq];try rfl)|refine Wb ?_|fail
   refine zc9 rfl (fun hq=>?_) (fun hq=>?_)
   ·refine Wk ?_
    refine zjF fun e=>?_
    have h1:=e k hlt
    rw [hgd] at h1
    rw [decide_eq_true h1.1,decide_eq_true h1.2.1] at hq
    cases hq
   ·simp only [Bool.not_eq_false',jJ,decide_eq_true_eq] at hq
    refine Wk ?_
    refine ⟨k+1,⟨hlt,fun i hi=>?_⟩,by omega,zjB (zjA hlt (by omega))⟩
    rcases Nat.lt_succ_iff_lt_or_eq.1 hi with hi|rfl
    ·exact hk.2 i hi
    ·rw [hgd];exact ⟨hq.1,by omega,fun hp=>by omega⟩
  ·have hp:k - 1 < b.l.length:=by omega
   have hw:IntKind.i64.wrap ((k:Int) - 1)=((k - 1:Nat):Int):=by rw [zjz (by omega)];omega
   have hf:(0 < (k:Int))=True:=eq_true (by omega)
   repeat' first|refine Wa ?_|refine zhF (fun _=>zuo _ _ _) ?_|(simp only [go_sem,jq,jj,jy,jv,jk,jx,zkv hb hlt,hb.some hlt,hlt,hw,zkv hb hp,hp,jW,hf,decide_true,and_true,imp_self,true_implies,Bool.and_true,Bool.true_and];try rfl)|refine Wb ?_|fail
   refine zc9 rfl (fun hq=>?_) (fun hq=>?_)
   ·refine Wk ?_
    refine zjF fun e=>?_
    have h1:=e k hlt
    rw [hgd,zKA hp] at h1
    have h2:=h1.2.2 h0
    rcases (jQ _ _).mp hq with hq|hq
    ·rw [decide_eq_true h1.1,decide_eq_true h1.2.1] at hq
     cases hq
    ·have:=of_decide_eq_true hq
     omega
   ·obtain ⟨hq,hq2⟩:=Bool.or_eq_false_iff.1 hq
    simp only [Bool.not_eq_false',jJ,decide_eq_true_eq] at hq
    have hq2:=of_decide_eq_false hq2
    refine Wk ?_
    refine ⟨k+1,⟨hlt,fun i hi=>?_⟩,by omega,zjB (zjA hlt (by omega))⟩
    rcases Nat.lt_succ_iff_lt_or_eq.1 hi with hi|rfl
    ·exact hk.2 i hi
    ·rw [hgd,zKA hp];exact ⟨hq.1,by omega,fun _=>by omega⟩
 ·have hge:=zjI hd
  refine Wk ?_
  exact zjG (fun i hi=>hk.2 i (by omega))
def zKC (a:List DCall) (l:List Int):List DCall:=if Sel a.length l then l.map (fun k=>a.getD k.toNat ⟨0,0,0,0,0⟩) else []
theorem zKD (a:Sl DCall) (b:Sl Int) (h:Hp) (ha:a.Ok h) (hb:b.Ok h) (hz:Sz.sz (Con.con b)≤1048576):Ct jV 69 [a.val,b.val] h fun v h'=>∃ s:Sl DCall,v=s.val∧Con.con s=zKC (Con.con a) (Con.con b)∧s.Ok h'∧Mine h h' s:=by
 have hl:=hb.max
 have hl1:=ha.max
 have hz:=zmv hz
 rw [zmw] at hz
 rw [con_ints,zFg,zKC]
 refine zdn (fun A W=>by simp) Tryz.func69 rfl rfl (by simp) fun W0=>?_
 repeat' first|refine Wa ?_|refine zhF (fun _=>zKB _ _ _ ha hb) ?_|(simp only [go_sem,jq,jj,jy,jv,jk,jx];try rfl)|refine Wb ?_|fail
 refine zc9 rfl (fun hc=>?_) (fun hc=>?_)
 ·refine Wk ?_
  refine ⟨⟨none,0,[]⟩,rfl,?_,zmo,Mine.nil⟩
  rw [if_neg (of_decide_eq_false (by simpa only [Bool.not_eq_true'] using hc))];rfl
 have hsel:=of_decide_eq_true (by simpa only [Bool.not_eq_false'] using hc)
 rw [if_pos hsel]
 refine Wk ?_
 refine zl0 (ι:=Nat) (fun k=>⟨[(0,true,.c (.v a.val)),(5,true,.c (.s 0)),(13,true,.c (.v b.val)),(14,true,.c (.v (.int .i64 b.l.length))),(15,true,.c (.v (.int .i64 k)))],[(0,.row 89 5 k (((b.l.take k).map (fun k=>a.l.getD k.toNat ⟨0,0,0,0,0⟩)).flatMap Enc.enc))],h,1⟩) (fun k=>k≤b.l.length) (fun k=>b.l.length - k) 0 (Nat.zero_le _) [0] ?_ ?_
 ·refine Evs ?_
  exact Gk
 intro k hk
 refine Wk ?_
 refine zc9 rfl (fun hd=>?_) (fun hd=>?_)
 ·have hlt:=zjH hd
  obtain ⟨s1,s2,_⟩:=hsel k hlt
  rw [zKA hlt] at s1 s2
  have hi:b.l[k].toNat < a.l.length:=by omega
  have hln:(((b.l.take k).map (fun k=>a.l.getD k.toNat ⟨0,0,0,0,0⟩)).flatMap Enc.enc).length=k * 5:=by rw [ziq Enc.len,List.length_map,List.length_take];exact congrArg (· * 5) (by omega)
  repeat' first|refine Wa ?_|(simp only [go_sem,jq,jj,jy,jv,jk,jx,zkv hb hlt,hb.some hlt,hlt,zE7 ha hi,ha.some hi,hi,s1,s2,jW];try rfl)|refine Wb ?_|fail
  refine ⟨by simp only [maxLen];omega,by omega,?_⟩
  refine Wk ?_
  refine ⟨k+1,[2],hlt,by omega,?_⟩
  refine Evs ?_
  refine ⟨zjB (zjA hlt (by omega)),?_,rfl⟩
  rw [List.take_succ_eq_append_getElem hlt,List.map_append,List.flatMap_append,List.map_cons,List.map_nil,List.flatMap_cons,List.flatMap_nil,List.append_nil,show a.l.getD b.l[k].toNat ⟨0,0,0,0,0⟩=a.l[b.l[k].toNat] by simp [List.getD_eq_getElem?_getD,hi]]
  rfl
 ·have hge:=zjI hd
  have hke:k=b.l.length:=Nat.le_antisymm hk hge
  refine zc6 ?_
  refine Evs ?_
  refine zlE 0 (b.l.map (fun k=>a.l.getD k.toNat ⟨0,0,0,0,0⟩)) rfl rfl (by rw [List.length_map,hke]) (by rw [hke,List.take_length]) (by decide) (fun x hx=>?_) h (Hp.le_refl _) (Mines.flat (fun _=>rfl) (fun _=>trivial)) fun s h' e1 e2 e3 e4=>?_
  ·obtain ⟨q,hq,rfl⟩:=List.mem_map.1 hx
   obtain ⟨i,hi,rfl⟩:=List.getElem_of_mem hq
   obtain ⟨s1,s2,_⟩:=hsel i hi
   rw [zKA hi] at s1 s2
   have hi':b.l[i].toNat < a.l.length:=by omega
   rw [show a.l.getD b.l[i].toNat ⟨0,0,0,0,0⟩=a.l[b.l[i].toNat] by simp [List.getD_eq_getElem?_getD,hi']]
   exact ha.el hi'
  refine Wk ?_
  exact ⟨s,rfl,by rw [zFg,e1],e2,e4⟩
theorem zBM (a:Sl DPassage) (h:Hp) (ha:a.Ok h) (hz:a.l.length≤1048576):Ct jV 49 [a.val] h fun v h'=>∃ s:Sl DPassage,v=s.val∧s.l=a.l∧s.Ok h'∧Mine h h' s:=by
 have hall:=ha.all (by decide)
 have hd:(h.ldL a.val 5).isSome=true:=by rw [show h.ldL a.val 5=_ from hall];rfl
 refine zdn (fun A W=>by simp) Tryz.func49 rfl rfl (by simp) fun W0=>?_
 repeat' first|refine Wa ?_|(simp only [go_sem,jq,jj,jy,jv,jk,jx,hall,show h.ldL a.val 5=some (a.l.flatMap Enc.enc) from hall,Option.isSome_some,Option.getD_some];try rfl)|refine Wb ?_|fail
 refine ⟨by simp only [maxLen];omega,by omega,?_⟩
 repeat' first|refine Wa ?_|(simp only [go_sem,jq,jj,jy,jv,jk,jx,hall,show h.ldL a.val 5=some (a.l.flatMap Enc.enc) from hall,Option.isSome_some,Option.getD_some];try rfl)|refine Wb ?_|fail
 refine ⟨fun u hu=>by obtain ⟨x,_,hx⟩:=List.mem_flatMap.1 hu;exact Enc.one x u hx,by simp only [maxLen];omega,by omega,?_⟩
 refine zlE 1 a.l rfl rfl (Nat.zero_add _) rfl (by decide) (fun x hx=>ha.2.2.2.1 x hx) h (Hp.le_refl _) (Mines.flat (fun _=>rfl) (fun _=>trivial)) fun s h' e1 e2 e3 e4=>?_
 refine Wk ?_
 exact ⟨s,rfl,e1,e2,e4⟩
def zKE (l:List POption):List (List DPassage):=l.map (·.pas)
theorem zKF (a:Sl DOption):zKE (Con.con a)=a.l.map (fun o=>o.pas.l):=by
 rw [zKE,zkq,List.map_map]
 exact List.map_congr_left fun o _=>zup o.pas
theorem zKG (s:Sl (Sl DPassage)):Con.con s=s.l.map (·.l):=List.map_congr_left fun x _=>zup x
theorem zKH (a:Sl DOption) (h:Hp) (ha:a.Ok h) (hz:Sz.sz (Con.con a)≤1048576):Ct jV 15 [a.val] h fun v h'=>∃ s:Sl (Sl DPassage),v=s.val∧Con.con s=zKE (Con.con a)∧s.Ok h'∧Mine h h' s:=by
 have hl:=ha.max
 have hz1:=zmv hz
 rw [zmw] at hz1
 have hzp:∀ k (hk:k < a.l.length),a.l[k].pas.l.length≤1048576:=fun k hk=>by
  have h1:Sz.sz (Con.con a.l[k])≤1048576:=zFe hz (by rw [zkq];exact List.mem_map_of_mem (List.getElem_mem hk))
  have h2:Sz.sz (Con.con a.l[k])=Sz.sz (Con.con a.l[k].pas):=rfl
  rw [h2] at h1
  have:=zmv h1
  rwa [zmw] at this
 rw [zKF]
 refine zdn (fun A W=>by simp) Tryz.func15 rfl rfl (by simp) fun W0=>?_
 refine Wk ?_
 refine zl0 (ι:=Nat × List (Sl DPassage) × Hp) (fun i=>⟨[(3,true,.c (.s 0)),(7,true,.c (.v a.val)),(8,true,.c (.v (.int .i64 a.l.length))),(9,true,.c (.v (.int .i64 i.1)))],[(0,.row 51 1 i.1 (i.2.1.flatMap Enc.enc))],i.2.2,1⟩) (fun i=>i.1≤a.l.length∧i.2.1.length=i.1∧i.2.1.map (·.l)=(a.l.take i.1).map (fun o=>o.pas.l)∧(∀ d ∈ i.2.1,Enc.ok i.2.2 d)∧h.le i.2.2∧Mines h i.2.2 i.2.1) (fun i=>a.l.length - i.1) (0,[],h) ⟨Nat.zero_le _,rfl,rfl,fun _ h=>(by cases h),Hp.le_refl _,Mines.nil⟩ [0] ?_ ?_
 ·refine Evs ?_
  exact Gk
 rintro ⟨k,ds,hk⟩ ⟨hi,hn,hm,ho,hle,hmi⟩
 simp only at hi hn hm ho hle hmi
 have ha':=ha.mono hle
 refine Wk ?_
 refine zc9 rfl (fun hd=>?_) (fun hd=>?_)
 ·have hlt:=zjH hd
  have hp:=(ha'.el hlt).2.2.2
  repeat' first|refine Wa ?_|(simp only [go_sem,jq,jj,jy,jv,jk,jx,zkC ha' hlt,ha'.some hlt,hlt,jW];try rfl)|refine Wb ?_|fail
  refine zkj (zBM _ _ hp (hzp k hlt)) rfl ?_
  rintro v h1 hle1 ⟨d,rfl,e1,e2,e3⟩
  refine Wk ?_
  refine ⟨by simp only [maxLen];omega,by omega,?_⟩
  refine Wk ?_
  refine ⟨(k+1,ds ++ [d],h1),[3],⟨hlt,by simp [hn],by rw [List.map_append,hm,zFd hlt,← e1];rfl,fun x hx=>?_,Hp.le_trans hle hle1,hmi.snoc ho hle1 hle e3⟩,by simp only;omega,?_⟩
  ·rcases List.mem_append.1 hx with hx|hx
   ·exact Enc.mono hle1 (ho x hx)
   ·rw [List.mem_singleton.1 hx];exact e2
  refine Evs ?_
  refine ⟨zjB (zjA hlt (by omega)),?_,Hp.le_trans hle hle1,rfl⟩
  rw [List.flatMap_append]
  rfl
 ·have hge:=zjI hd
  have hke:k=a.l.length:=Nat.le_antisymm hi hge
  refine zc6 ?_
  refine Evs ?_
  refine zlE 0 ds rfl rfl hn.symm rfl (by decide) ho h hle hmi fun s h' e1 e2 e3 e4=>?_
  refine Wk ?_
  exact ⟨s,rfl,by rw [zKG,e1,hm,hke,List.take_length],e2,e4⟩
theorem zKI (a:List POption) (hz:Sz.sz a≤1048576):Sz.sz (zKE a)≤1048576:=by
 have:Sz.sz (zKE a)=Sz.sz a:=by
  rw [zKE,zmu,zmu,List.length_map,List.map_map]
  rfl
 rw [this];exact hz
def zKJ (L:List (List POption)) (ch:List Int) (k:Nat) (p:List POption):Option (List POption):=if 0≤ch.getD k 0∧ch.getD k 0 < (L.getD k []).length then some (p ++ [(L.getD k []).getD (ch.getD k 0).toNat zJX]) else none
def plGo (L:List (List POption)) (ch:List Int):Nat→Option (List POption)
 | 0=>some []
 | k+1=>(plGo L ch k).bind (zKJ L ch k)
def oLB (o:Option (List POption)):List POption × Bool:=match o with|none=>([],false)|some s=>(s,true)
def zKK (x:zFc) (calls:List DCall) (ch:List Int):List POption × Bool:=if (zJJ x calls && decide (ch.length=calls.length))=true then oLB (plGo (zKs x calls) ch calls.length) else ([],false)
theorem zKL {L:List (List POption)} {ch:List Int} {k:Nat} (h:plGo L ch k=none):∀ {n:Nat},k≤n→plGo L ch n=none
 | 0,hn=>by rw [← Nat.le_zero.1 hn,h]
 | n+1,hn=>by
  rcases Nat.lt_or_ge n k with hk|hk
  ·rw [show n+1=k by omega,h]
  ·rw [plGo,zKL h hk];rfl
theorem zKM {L:List (List POption)} {ch:List Int} {k n:Nat} {p:List POption} (h:plGo L ch k=some p) (hb:¬ (0≤ch.getD k 0∧ch.getD k 0 < (L.getD k []).length)) (hk:k < n):plGo L ch n=none:=by
 refine zKL (k:=k+1) ?_ hk
 rw [plGo,h,Option.bind_some,zKJ,if_neg hb]
theorem zKN {L:List (List POption)} {ch:List Int} {k:Nat} {p:List POption} (h:plGo L ch k=some p) (hb:0≤ch.getD k 0∧ch.getD k 0 < (L.getD k []).length):plGo L ch (k+1)=some (p ++ [(L.getD k []).getD (ch.getD k 0).toNat zJX]):=by
 rw [plGo,h,Option.bind_some,zKJ,if_pos hb]
theorem zKO {α:Type} [Enc α] [Foot α] {l:List α} {i:Nat} (hi:i < l.length):(Foot.foot l[i]).Sublist (l.flatMap Foot.foot):=by
 obtain ⟨a,b,e⟩:=List.append_of_mem (List.getElem_mem hi)
 have e2:l.flatMap Foot.foot=(a ++ l[i] :: b).flatMap Foot.foot:=congrArg (fun z=>z.flatMap Foot.foot) e
 rw [e2,List.flatMap_append,List.flatMap_cons]
 exact (List.sublist_append_left _ _).trans (List.sublist_append_right _ _)
theorem zKP {α:Type} [Enc α] [Foot α] {s:Sl α} {i:Nat} (hi:i < s.l.length):(Foot.foot s.l[i]).Sublist (Foot.foot s):=by
 rw [show Foot.foot s=_ from Sl.foot_ne (fun e=>by rw [e] at hi;cases hi)]
 exact (zKO hi).trans (List.sublist_cons_self _ _)
theorem zBN {α:Type} [Enc α] [Foot α] {h:Hp} {s:Sl α} (H:Foot.own h s) {i:Nat} (hi:i < s.l.length):Foot.own h s.l[i] :=
 (H (fun e=>by rw [e] at hi;cases hi)).2 _ (List.getElem_mem hi)
theorem zKQ {α:Type} [Enc α] [Foot α] {h h':Hp} {s:Sl α} (H:Mine h h' s) {i:Nat} (hi:i < s.l.length):Mine h h' s.l[i] :=
 ⟨zBN H.1 hi,fun b hb=>H.2.1 b ((zKP hi).subset hb),H.2.2.sublist (zKP hi)⟩
theorem zKR {l:List DOption} {c:Int} (h0:0≤c) (hc:c.toNat < l.length):(l.map (Con.con (α:=DOption))).getD c.toNat zJX=Con.con l[c.toNat]:=by
 simp [List.getD_eq_getElem?_getD,hc]
set_option maxRecDepth 30000 in
theorem zKS (x:DHarbour) (a:Sl DCall) (m:Sl Int) (h:Hp) (hx:Enc.ok h x) (ha:a.Ok h) (hm:m.Ok h):Ct jV 9 [x.v,a.val,m.val] h fun v h'=>∃ s:Sl DOption,v=.tuple #[s.val,.bool (zKK (Con.con x) a.l m.l).2]∧s.l.map (Con.con (α:=DOption))=(zKK (Con.con x) a.l m.l).1∧s.Ok h'∧Mine h h' s:=by
 have hla:=ha.max
 have hlm:=hm.max
 refine zdn (fun A W=>by simp) Tryz.func9 rfl rfl (by simp) fun W0=>?_
 repeat' first|refine Wa ?_|refine zhF (fun _=>zJL x a _ hx ha) ?_|(simp only [go_sem,jq,jj,jy,jv,jk,jx];try rfl)|refine Wb ?_|fail
 rw [zJK]
 refine zc9 rfl (fun hc=>?_) (fun hc=>?_)
 ·have hF:zKK (Con.con x) a.l m.l=([],false):=by
   rw [zKK,if_neg]
   intro H
   rw [jJ,decide_eq_true_eq] at H
   rw [H.1,H.2] at hc
   simp at hc
  rw [hF]
  refine Wk ?_
  exact ⟨⟨none,0,[]⟩,rfl,rfl,zmo,Mine.nil⟩
 obtain ⟨hc1,hc2⟩:=Bool.or_eq_false_iff.1 hc
 rw [Bool.not_eq_false'] at hc1
 have hlen:m.l.length=a.l.length:=by
  have h9:(m.l.length:Int)=a.l.length:=by simpa using hc2
  omega
 have hF:zKK (Con.con x) a.l m.l=oLB (plGo (zKs (Con.con x) a.l) m.l a.l.length):=by
  rw [zKK,hc1,hlen,decide_eq_true rfl];rfl
 have h6:=zKv hc1
 have hz:a.l.length≤1048576:=by omega
 rw [hF]
 refine Wk ?_
 refine zl0 (ι:=Nat × List DOption × Hp) (fun i=>⟨[(2,true,.c (.v m.val)),(3,true,.c (.p 0 0)),(6,true,.c (.v (.slice none 0 0))),(7,true,.c (.v (.bool false))),(8,true,.c (.s 1)),(24,true,.c (.v a.val)),(25,true,.c (.v (.int .i64 a.l.length))),(26,true,.c (.v (.int .i64 i.1)))],[(0,.box 40 [.v (.int .i64 x.forecast.tide.mean),.v x.forecast.tide.parts.val,.v x.forecast.surges.val,.v x.chart.points.val,.v x.chart.segments.val,.v x.fleet.val,.v (.int .i64 x.regime.gap),.v (.bool x.regime.noMeet),.v (.int .i64 x.crew.tugs),.v (.int .i64 x.crew.pilots),.v (.int .i64 x.crew.rest),.v x.crew.moves.val]),(1,.row 53 4 i.2.1.length (i.2.1.flatMap Enc.enc))],i.2.2,2⟩) (fun i=>i.1≤a.l.length∧i.2.1.length=i.1∧plGo (zKs (Con.con x) a.l) m.l i.1=some (i.2.1.map Con.con)∧(∀ y ∈ i.2.1,Enc.ok i.2.2 y)∧Mines h i.2.2 i.2.1∧h.le i.2.2) (fun i=>a.l.length - i.1) (0,[],h) ⟨Nat.zero_le _,rfl,rfl,fun y hy=>(by cases hy),Mines.nil,Hp.le_refl _⟩ [0,1] ?_ ?_
 ·refine Evs ?_
  exact Gk
 rintro ⟨k,acc,hk⟩ ⟨hkl,hal,hgo,hacok,hacm,hle⟩
 simp only at hkl hal hgo hacok hacm hle
 have hak:=ha.mono hle
 have hxk:Enc.ok hk x:=Enc.mono hle hx
 refine Wk ?_
 refine zc9 rfl (fun hd=>?_) (fun hd=>?_)
 ·have hlt:=zjH hd
  repeat' first|refine Wa ?_|(simp only [go_sem,jq,jj,jy,jv,jk,jx,zE7 hak hlt,hak.some hlt,hlt,jW];try rfl)|refine Wb ?_|fail
  refine zkj (zzc x a.l[k] _ hxk (hak.el hlt)) rfl ?_
  rintro v h2 le2 ⟨s,rfl,es,oks,ms⟩
  have es:s.l.map (Con.con (α:=DOption))=zy1 (Con.con x) a.l[k]:=es
  have hmk2:=(hm.mono hle).mono le2
  have hltm:k < m.l.length:=by omega
  have hltm2:(k:Int) < m.l.length:=by omega
  have hls:=oks.max
  have hle2:=Hp.le_trans hle le2
  have hgk:(zKs (Con.con x) a.l).getD k []=s.l.map (Con.con (α:=DOption)):=by rw [zKt hlt,es]
  have hmg:m.l.getD k 0=m.l[k]:=iget hltm
  repeat' first|refine Wa ?_|refine zhF (fun _=>zuo _ _ _) ?_|(simp only [go_sem,jq,jj,jy,jv,jk,jx,atI hmk2 hltm,hmk2.some hltm,hltm,hltm2,jW,jY,implies_true,true_and,and_true,and_self];try rfl)|refine Wb ?_|fail
  refine zc9 rfl (fun hq=>?_) (fun hq=>?_)
  ·refine Wk ?_
   rw [zKM hgo (by
    rw [hgk,hmg,zJ2]
    intro H
    rw [decide_eq_true H.1,decide_eq_true H.2] at hq
    cases hq) hlt]
   exact ⟨⟨none,0,[]⟩,rfl,rfl,zmo,Mine.nil⟩
  ·have hin:0≤m.l[k]∧m.l[k] < (s.l.length:Int):=by simpa using hq
   have hci:m.l[k].toNat < s.l.length:=by omega
   have hgo2:=zKN hgo (by rw [hgk,hmg,zJ2];exact hin)
   rw [hgk,hmg,zKR hin.1 hci] at hgo2
   repeat' first|refine Wa ?_|(simp only [go_sem,jq,jj,jy,jv,jk,jx,atI hmk2 hltm,hmk2.some hltm,hltm,hltm2,zkC oks hci,oks.some hci,hci,hin.1,hin.2,jW,jY,implies_true,true_and,and_true,and_self];try rfl)|refine Wb ?_|fail
   refine ⟨by simp only [maxLen];omega,by omega,?_⟩
   refine Wk ?_
   have hw:IntKind.i64.wrap ((k:Int)+1)=((k+1:Nat):Int):=zjA hlt (by omega)
   refine ⟨(k+1,acc ++ [s.l[m.l[k].toNat]],h2),[0,4],⟨hlt,?_,?_,fun y hy=>?_,Mines.snoc hacm hacok le2 hle (zKQ ms hci),hle2⟩,by simp only;omega,?_⟩
   ·show (acc ++ _).length=k+1
    rw [List.length_append,hal];rfl
   ·rw [hgo2]
    show _=some ((acc ++ _).map _)
    rw [List.map_append];rfl
   ·rcases List.mem_append.1 hy with hy|hy
    ·exact Enc.mono le2 (hacok y hy)
    ·rw [List.mem_singleton.1 hy];exact oks.el hci
   refine Evs ?_
   rw [hw]
   simp only [List.flatMap_append,List.length_append]
   exact Gk
 ·have hge:=zjI hd
  obtain rfl:k=a.l.length:=by omega
  refine zc6 ?_
  refine Evs ?_
  refine zlE 1 acc rfl rfl rfl rfl (by decide) hacok h hle hacm fun q h' e2 e3 e4 e5=>?_
  refine Wk ?_
  rw [hgo]
  exact ⟨q,rfl,by rw [e2];rfl,e3,e5⟩
def zBO (x:zFc) (a:DCall) (old:POption):List POption:=if zvB x a=true then (if zyW x a old=true then [old] else []) ++ (zy1 x a).filter (fun o=>!zut o old) else []
theorem zBP {q:DOption} {B:Nat} (hz:Sz.sz (Con.con q)≤B):q.pas.l.length≤B:=by
 have h2:Sz.sz (Con.con q)=Sz.sz (Con.con q.pas):=rfl
 rw [h2] at hz
 have:=zmv hz
 rwa [zmw] at this
theorem zBQ {x:zFc} {a:DCall} {o:POption} (h:zyW x a o=true):Sz.sz o≤8:=by
 rw [zyW,jJ] at h
 have e:(zyR x a (o.pas.map (·.seg)) o.start).1=o:=of_decide_eq_true h.2
 rw [← e,zyR]
 split
 ·exact zzg
 ·exact Nat.zero_le _
def zBR (h:Hp) (q:DOption) (v:Value) (h':Hp):Prop:=∃ z:DOption,v=z.v∧Con.con z=Con.con q∧Enc.ok h' z∧Mine h h' z
theorem zBS {h h':Hp} {q:DOption} {s:Sl DPassage} (hq:Enc.ok h q) (e:s.l=q.pas.l) (ok:s.Ok h') (m:Mine h h' s):Con.con (DOption.mk q.start q.arr q.cost s)=Con.con q∧Enc.ok h' (DOption.mk q.start q.arr q.cost s)∧Mine h h' (DOption.mk q.start q.arr q.cost s):=by
 refine ⟨?_,⟨hq.1,hq.2.1,hq.2.2.1,ok⟩,m⟩
 rw [zkA,zkA,show Con.con s=s.l from zxH s,show Con.con q.pas=q.pas.l from zxH q.pas,e]
theorem zBT (q:DOption) (h:Hp) (hq:Enc.ok h q) (hz:q.pas.l.length≤1048576):Ct jV 98 [q.v] h (zBR h q):=by
 refine zdn (fun A W=>by simp) Tryz.func98 rfl rfl (by simp) fun W0=>?_
 refine Wk ?_
 refine znv rfl ?_
 refine U_t [0,2,4,6,1,3,5,7] rfl ?_
 refine Evs ?_
 refine U_1 8 0 [5,3,1,4,2,0] rfl rfl ?_
 refine Evs ?_
 refine zkj (zBM q.pas _ hq.2.2.2 hz) rfl ?_
 rintro v h1 le1 ⟨s,rfl,es,oks,ms⟩
 refine Evs ?_
 refine U_1 9 0 [] rfl rfl ?_
 refine Evs ?_
 refine U_1 10 0 [] rfl rfl ?_
 refine Evs ?_
 refine U_d ?_
 refine Wk ?_
 obtain ⟨k1,k2,k3⟩:=zBS hq es oks ms
 exact ⟨_,rfl,k1,k2,k3⟩
set_option maxRecDepth 30000 in
theorem zBU (x:DHarbour) (a:DCall) (q:DOption) (h:Hp) (hx:Enc.ok h x) (ha:Enc.ok h a) (hq:Enc.ok h q) (hz:Sz.sz (Con.con q)≤1048576):Ct jV 56 [x.v,a.v,q.v] h fun v h'=>∃ s:Sl DOption,v=s.val∧Con.con s=zBO (Con.con x) (Con.con a) (Con.con q)∧s.Ok h'∧Mine h h' s:=by
 have hpz:q.pas.l.length≤1048576:=zBP hz
 refine zdn (fun A W=>by simp) Tryz.func56 rfl rfl (by simp) fun W0=>?_
 repeat' first|refine Wa ?_|refine zhF (fun _=>zvE x a _ hx ha) ?_|(simp only [go_sem,jq,jj,jy,jv,jk,jx];try rfl)|refine Wb ?_|fail
 refine zc9 rfl (fun hc=>?_) (fun hc=>?_)
 ·rw [Bool.not_eq_true'] at hc
  have hF:zBO (Con.con x) (Con.con a) (Con.con q)=[]:=by rw [zBO,if_neg (by rw [show zvB (Con.con x) (Con.con a)=false from hc];exact Bool.false_ne_true)]
  rw [hF]
  refine Wk ?_
  exact ⟨⟨none,0,[]⟩,rfl,rfl,zmo,Mine.nil⟩
 rw [Bool.not_eq_false'] at hc
 have hF:zBO (Con.con x) (Con.con a) (Con.con q)=(if zyW (Con.con x) (Con.con a) (Con.con q)=true then [Con.con q] else []) ++ (zy1 (Con.con x) (Con.con a)).filter (fun o=>!zut o (Con.con q)):=by rw [zBO,if_pos hc]
 rw [hF]
 repeat' first|refine Wa ?_|refine zhF (fun _=>zyY x a q _ hx ha hq hz) ?_|(simp only [go_sem,jq,jj,jy,jv,jk,jx];try rfl)|refine Wb ?_|fail
 refine zoc (ι:=List DOption × Hp) (fun t=>⟨[(3,true,.c (.p 0 0)),(4,true,.c (.p 1 0)),(5,true,.c (.p 2 0)),(6,true,.c (.v (.slice none 0 0))),(7,true,.c (.s 3))],[(0,.box 40 [.v (.int .i64 x.forecast.tide.mean),.v x.forecast.tide.parts.val,.v x.forecast.surges.val,.v x.chart.points.val,.v x.chart.segments.val,.v x.fleet.val,.v (.int .i64 x.regime.gap),.v (.bool x.regime.noMeet),.v (.int .i64 x.crew.tugs),.v (.int .i64 x.crew.pilots),.v (.int .i64 x.crew.rest),.v x.crew.moves.val]),(1,.box 89 [.v (.int .i64 a.ship),.v (.int .i64 a.src),.v (.int .i64 a.dst),.v (.int .i64 a.ready),.v (.int .i64 a.due)]),(2,.box 53 [.v (.int .i64 q.start),.v (.int .i64 q.arr),.v (.int .i64 q.cost),.v q.pas.val]),(3,.row 53 4 t.1.length (t.1.flatMap Enc.enc))],t.2,4⟩) (fun t=>t.1.length≤1∧t.1.map Con.con=(if zyW (Con.con x) (Con.con a) (Con.con q)=true then [Con.con q] else [])∧(∀ y ∈ t.1,Enc.ok t.2 y)∧Mines h t.2 t.1∧h.le t.2) ?_ ?_
 ·refine zc9 rfl (fun hi=>?_) (fun hi=>?_)
  ·rw [if_pos hi]
   refine Wk ?_
   refine zkj (zBT q _ hq hpz) rfl ?_
   rintro v h1 le1 ⟨z,rfl,ez,okz,mz⟩
   refine Wk ?_
   refine ⟨by simp only [maxLen];omega,([z],h1),[0,1,2,5],⟨Nat.le_refl _,by rw [List.map_cons,List.map_nil,ez],fun y hy=>by rw [List.mem_singleton.1 hy];exact okz,by have:=Mines.snoc (l:=[]) Mines.nil (fun y hy=>by cases hy) le1 (Hp.le_refl _) mz;simpa using this,le1⟩,?_⟩
   refine Evs ?_
   exact Gk
  ·rw [if_neg (by rw [hi];exact Bool.false_ne_true)]
   refine Wk ?_
   refine ⟨([],h),[0,1,2,3],⟨Nat.zero_le _,rfl,fun y hy=>(by cases hy),Mines.nil,Hp.le_refl _⟩,?_⟩
   refine Evs ?_
   exact Gk
 rintro ⟨ac,h1⟩ ⟨hac1,hacc,hacok,hacm,le1⟩
 simp only at hac1 hacc hacok hacm le1
 refine Wk ?_
 refine zkj (zzc x a _ (Enc.mono le1 hx) (Enc.mono le1 ha)) rfl ?_
 rintro v h2 le2 ⟨s,rfl,es,oks,ms⟩
 have es:s.l.map (Con.con (α:=DOption))=zy1 (Con.con x) (Con.con a):=es
 have hq2:Enc.ok h2 q:=Enc.mono (Hp.le_trans le1 le2) hq
 have hlm:s.l.length≤8:=by
  have:=(zzi (x:=Con.con x) (a:=Con.con a)).1
  rwa [← es,List.length_map] at this
 refine Evs ?_
 refine Wk ?_
 rw [← hacc,← es]
 refine zoe (ι:=Nat × List DOption) (fun i=>⟨[(5,true,.c (.p 0 0)),(6,true,.c (.v (.slice none 0 0))),(7,true,.c (.s 1)),(26,true,.c (.v s.val)),(27,true,.c (.v (.int .i64 s.l.length))),(28,true,.c (.v (.int .i64 i.1)))],[(0,.box 53 [.v (.int .i64 q.start),.v (.int .i64 q.arr),.v (.int .i64 q.cost),.v q.pas.val]),(1,.row 53 4 i.2.length (i.2.flatMap Enc.enc))],h2,2⟩) (fun i=>i.1≤s.l.length∧i.2.length≤i.1+1∧i.2.map Con.con=ac.map Con.con ++ ((s.l.map Con.con).take i.1).filter (fun o=>!zut o (Con.con q))∧(∀ y ∈ i.2,Enc.ok h2 y∧Foot.own h2 y)∧(i.2.flatMap Foot.foot).Sublist (ac.flatMap Foot.foot ++ (s.l.take i.1).flatMap Foot.foot)) (fun i=>s.l.length - i.1) (0,ac) ⟨Nat.zero_le _,by omega,by simp,fun y hy=>⟨Enc.mono le2 (hacok y hy),(Foot.loc (hacok y hy) (hacm.1 y hy) fun b _ o ho=>le2 b o ho).2⟩,by simp⟩ [2,3] ?_ ?_
 ·refine Evs ?_
  exact Gk
 rintro ⟨k,acc⟩ ⟨hk,hal,hmp,hok,hsub⟩
 simp only at hk hal hmp hok hsub
 refine Wk ?_
 refine zc9 rfl (fun hd=>?_) (fun hd=>?_)
 ·have hlt:=zjH hd
  have hke:((s.l.map (Con.con (α:=DOption))).take (k+1)).filter (fun o=>!zut o (Con.con q))=((s.l.map Con.con).take k).filter (fun o=>!zut o (Con.con q)) ++ (if zut (Con.con s.l[k]) (Con.con q)=true then [] else [Con.con s.l[k]]):=by
   rw [List.take_succ_eq_append_getElem (by rw [List.length_map];exact hlt),List.filter_append,List.getElem_map]
   cases hh:zut (Con.con s.l[k]) (Con.con q) <;> simp [hh]
  have hsk:((s.l.take k).flatMap (Foot.foot (α:=DOption))).Sublist ((s.l.take (k+1)).flatMap Foot.foot):=by
   rw [List.take_succ_eq_append_getElem hlt,List.flatMap_append];exact List.sublist_append_left _ _
  repeat' first|refine Wa ?_|refine zhF (fun _=>zuv s.l[k] q _ (oks.el hlt) hq2) ?_|(simp only [go_sem,jq,jj,jy,jv,jk,jx,zkC oks hlt,oks.some hlt,hlt,jW];try rfl)|refine Wb ?_|fail
  refine zc9 rfl (fun hi=>?_) (fun hi=>?_)
  ·rw [Bool.not_eq_true'] at hi
   refine Wk ?_
   refine ⟨by simp only [maxLen];omega,by omega,?_⟩
   refine Wk ?_
   refine ⟨(k+1,acc ++ [s.l[k]]),[0,4],⟨hlt,by simp only [List.length_append,List.length_singleton];omega,?_,fun y hy=>?_,?_⟩,by simp only;omega,?_⟩
   ·show (acc ++ [s.l[k]]).map Con.con=_
    rw [hke,if_neg (by rw [hi];exact Bool.false_ne_true),List.map_append,hmp,List.append_assoc];rfl
   ·rcases List.mem_append.1 hy with hy|hy
    ·exact hok y hy
    ·rw [List.mem_singleton.1 hy];exact ⟨oks.el hlt,zBN ms.1 hlt⟩
   ·show ((acc ++ [s.l[k]]).flatMap Foot.foot).Sublist _
    rw [List.flatMap_append,List.take_succ_eq_append_getElem hlt,List.flatMap_append,← List.append_assoc]
    exact List.Sublist.append hsub (List.Sublist.refl _)
   refine Evs ?_
   simp only [List.flatMap_append,List.length_append]
   exact Gi (zjA hlt (by omega))
  ·rw [Bool.not_eq_false'] at hi
   refine Wk ?_
   refine ⟨(k+1,acc),[0,1],⟨hlt,by simp only;omega,?_,hok,hsub.trans (List.Sublist.append (List.Sublist.refl _) hsk)⟩,by simp only;omega,?_⟩
   ·simp only
    rw [hke,if_pos hi,List.append_nil];exact hmp
   refine Evs ?_
   exact Gi (zjA hlt (by omega))
 ·have hge:=zjI hd
  obtain rfl:k=s.l.length:=by omega
  refine zc6 ?_
  refine Evs ?_
  have hsl:(s.l.flatMap Foot.foot).Sublist (Foot.foot s):=by
   by_cases hne:s.l=[]
   ·rw [hne];exact List.nil_sublist _
   ·rw [show Foot.foot s=_ from Sl.foot_ne hne]
    exact List.sublist_cons_self _ _
  rw [List.take_length] at hsub
  have hmm:Mines h h2 acc:=by
   have hnd:(ac.flatMap Foot.foot ++ s.l.flatMap Foot.foot).Nodup:=by
    refine List.nodup_append.2 ⟨hacm.2.2,ms.2.2.sublist hsl,fun u hu v hv e=>?_⟩
    subst e
    obtain ⟨y,hy,hu⟩:=List.mem_flatMap.1 hu
    exact Foot.dom (hacm.1 y hy) u hu (ms.2.1 u (hsl.subset hv))
   refine ⟨fun y hy=>(hok y hy).2,fun b hb=>?_,hnd.sublist hsub⟩
   rcases List.mem_append.1 (hsub.subset hb) with hb|hb
   ·exact hacm.2.1 b hb
   ·exact zmx le1 (ms.2.1 b (hsl.subset hb))
  refine zlE 1 acc rfl rfl rfl rfl (by decide) (fun y hy=>(hok y hy).1) h (Hp.le_trans le1 le2) hmm fun w h' e2 e3 e4 e5=>?_
  refine Wk ?_
  refine ⟨w,rfl,?_,e3,e5⟩
  show w.l.map Con.con=_
  rw [e2,hmp,List.take_of_length_le (by rw [List.length_map];exact Nat.le_refl _)]
abbrev wL (x:DHarbour) (a:DCall) (r:List Int):List Bool:=zyl (Con.con x.chart) ((zwV (Con.con x.chart) a.src r).getD []) r.length
abbrev mL (x:DHarbour) (a:DCall) (r:List Int):List Int:=minL (Con.con x.chart) (zyD (Con.con x) a) r r.length
abbrev uL (x:DHarbour) (a:DCall) (r:List Int):List (List DWindow):=zym (Con.con x.forecast) (Con.con x.chart) (zyD (Con.con x) a) r r.length
structure Voy (x:DHarbour) (a:DCall) (r:List Int) (m:Int) (pl l:List Int):Prop where
 hc:zva (Con.con x.chart)=true
 so:zvj (zyD (Con.con x) a)=true
 n0:0 < r.length
 n8:r.length≤8
 rt:zwV (Con.con x.chart) a.src r=some pl
 pk:ptsK (Con.con x.chart).segments a.src r r.length=some pl
 rg:∀ i,i < r.length→0≤r.getD i 0∧r.getD i 0 < (Con.con x.chart).segments.length
 ml:(mL x a r).length=r.length
 mi:∀ i,i < r.length→1≤(mL x a r).getD i 0∧(mL x a r).getD i 0≤480
 sr:zyB (Con.con x.forecast) (Con.con x.chart) (zyD (Con.con x) a) a.src r m=some l
 hm:zwb ((uL x a r).getD 0 []) m=true
 sl:slK (wL x a r) (mL x a r) (uL x a r) m (r.length - 1)=some l
 ll:l.length=r.length
 li:∀ i,i < r.length→0≤l.getD i 0∧l.getD i 0≤2880
 lo:m+zzm (mL x a r) (r.length - 1)≤l.getD (r.length - 1) 0
 ar:zxJ (Con.con x.chart) (zyD (Con.con x) a) r l=l.getD (r.length - 1) 0+(mL x a r).getD (r.length - 1) 0
 ps:zxN (Con.con x.chart) a.ship (zyD (Con.con x) a) a.src r l=pasL (Con.con x.chart) a.ship (zyD (Con.con x) a) pl r l r.length
theorem zBV {x:DHarbour} {a:DCall} {r:List Int} (hok:zvB (Con.con x) a=true) (hcv:cvOk (Con.con x) a r=true) {m:Int} (h0:0≤m∧m≤2880) {l:List Int} (hs:zyB (Con.con x.forecast) (Con.con x.chart) (zyD (Con.con x) a) a.src r m=some l):∃ pl,Voy x a r m pl l:=by
 obtain ⟨_,hC,⟨hsi,hsh,hso⟩,_⟩:=zyE hok
 have hv:voOk (Con.con x.forecast) (Con.con x.chart) (zyD (Con.con x) a) a.src r=true:=by
  rw [cvOk,jJ] at hcv;exact hcv.2
 have hR:zxf (Con.con x.chart) a.src r=true:=by
  rw [zyF hok,jJ] at hv;exact hv.1
 have hlen0:0 < r.length:=by
  rw [zyF hok,jJ,decide_eq_true_eq] at hv;exact hv.2
 obtain ⟨_,hin,pl,hptl,hpk,hplen,hpx⟩:=zxi hR
 have hrl:r.length≤8:=by have:=zxZ hC (zw5 hpk) hpx;omega
 have hrg:∀ i,i < r.length→0≤r.getD i 0∧r.getD i 0 < (Con.con x.chart).segments.length:=fun i hi=>by
  rw [iget hi];exact zxj hpk (Nat.le_refl _) i hi hi
 have hml:(mL x a r).length=r.length:=by rw [mL,minL,rmap_len]
 have hmi:∀ i,i < r.length→1≤(mL x a r).getD i 0∧(mL x a r).getD i 0≤480:=fun i hi=>by
  rw [mL,zzr hi]
  exact zzj (zzk hC (by have:=hrg i hi;omega))
 have h3:=hs
 rw [zyB,if_pos hv,zys] at h3
 split at h3
 ·rename_i hm
  rw [show (zym (Con.con x.forecast) (Con.con x.chart) (zyD (Con.con x) a) r r.length).length=r.length by rw [zym,rmap_len]] at h3
  obtain ⟨h4,h5,h6⟩:=zzo h0 (fun i hi=>hmi i (by omega)) (by rw [hml];omega) h3
  have h5':∀ i,i < r.length→0≤l.getD i 0∧l.getD i 0≤2880:=fun i hi=>h5 i (by omega)
  have hpo:arOk (Con.con x.chart) (zyD (Con.con x) a) r l=true:=by
   rw [arOk,jJ,jJ,jJ,Bool.not_eq_true',decide_eq_false_iff_not,decide_eq_true_eq,decide_eq_true_eq,hsh]
   refine ⟨⟨⟨?_,hso⟩,hlen0⟩,by omega⟩
   rw [zxn,if_pos ⟨hC,fun i hi=>by
    rw [rmOk,decide_eq_true_eq];exact hrg i hi⟩]
   have:=zzs hC (fun i hi=>zxj hpk (Nat.le_refl _) i hi hi) hrl (k:=r.length) (Nat.le_refl _)
   rw [List.take_length] at this
   omega
  refine ⟨pl,hC,by rw [hsh];exact hso,hlen0,hrl,hptl,hpk,hrg,hml,hmi,hs,hm,h3,by omega,h5',h6,?_,?_⟩
  ·have h7:=h5' (r.length - 1) (by omega)
   have h8:=hmi (r.length - 1) (by omega)
   rw [mL,zzr (by omega)] at h8 ⊢
   rw [zxJ,if_pos hpo,if_pos (by rw [In,jJ,decide_eq_true_eq,decide_eq_true_eq];exact h7),zjz (by omega)]
  ·rw [zxN,if_pos,hptl]
   ·rfl
   ·refine ⟨?_,fun i hi=>?_⟩
    ·rw [zxM,jJ,jJ,decide_eq_true_eq,hsh]
     exact ⟨⟨hR,hso⟩,by omega⟩
    ·rw [In,jJ,decide_eq_true_eq,decide_eq_true_eq];exact h5' i hi
 ·cases h3
theorem zBW {t t':Int} (h:t≤t'):∀ {l:List DWindow} {w w':DWindow},(∀ w ∈ l,w.src≤w.dst)→l.find? (fun w=>decide (t≤w.dst))=some w→l.find? (fun w=>decide (t'≤w.dst))=some w'→max w.src t≤max w'.src t'
 | [],w,w',_,h1,_=>by cases h1
 | y :: l,w,w',hw,h1,h2=>by
  have hy:=hw y (List.mem_cons_self ..)
  rw [List.find?_cons] at h1 h2
  by_cases c1:t≤y.dst
  ·rw [decide_eq_true c1] at h1
   obtain rfl:=Option.some.inj h1
   by_cases c2:t'≤y.dst
   ·rw [decide_eq_true c2] at h2
    obtain rfl:=Option.some.inj h2
    omega
   ·omega
  ·rw [decide_eq_false c1] at h1
   rw [decide_eq_false (by omega)] at h2
   exact zBW h (fun w hw'=>hw w (List.mem_cons_of_mem _ hw')) h1 h2
theorem zBX {l:List DWindow} (h:zwa l=true):∀ w ∈ l,0≤w.src∧w.src≤w.dst∧w.dst≤2880:=fun w hw=>by
 obtain ⟨i,hi,e⟩:=List.getElem_of_mem hw
 have h2:=of_decide_eq_true h i hi
 rw [zv9,decide_eq_true_eq,wget hi,e] at h2
 exact h2.1
theorem zBY {l:List DWindow} {t t':Int} (h:t≤t') (h1:¬ zwc l t < 0) (h2:¬ zwc l t' < 0):zwc l t≤zwc l t':=by
 unfold zwc at h1 h2 ⊢
 by_cases hw:zwa l=true
 ·rw [if_pos hw] at h1 h2 ⊢
  rw [if_pos hw]
  cases e1:l.find? (fun w=>decide (t≤w.dst)) with
  | none=>rw [e1] at h1;exact absurd (show (-1:Int) < 0 by decide) h1
  | some w =>
   cases e2:l.find? (fun w=>decide (t'≤w.dst)) with
   | none=>rw [e2] at h2;exact absurd (show (-1:Int) < 0 by decide) h2
   | some w'=>exact zBW h (fun w hm=>(zBX hw w hm).2.1) e1 e2
 ·rw [if_neg hw] at h1;exact absurd (show (-1:Int) < 0 by decide) h1
theorem zBZ {l:List DWindow} {t:Int} (h1:¬ zwc l t < 0):zwb l (zwc l t)=true:=by
 unfold zwc at h1 ⊢
 by_cases hw:zwa l=true
 ·rw [if_pos hw] at h1 ⊢
  cases e1:l.find? (fun w=>decide (t≤w.dst)) with
  | none=>rw [e1] at h1;exact absurd (show (-1:Int) < 0 by decide) h1
  | some w =>
   have hm:=List.mem_of_find?_eq_some e1
   have h3:=List.find?_some e1
   have h3:t≤w.dst:=of_decide_eq_true h3
   have h4:=zBX hw w hm
   rw [zwb,List.any_eq_true]
   refine ⟨w,hm,?_⟩
   rw [In,jJ,decide_eq_true_eq,decide_eq_true_eq]
   show w.src≤max w.src t∧max w.src t≤w.dst
   omega
 ·rw [if_neg hw] at h1;exact absurd (show (-1:Int) < 0 by decide) h1
theorem zB0 {w:List Bool} {m:List Int} {u:List (List DWindow)} {st:Int} (h0:zwb (u.getD 0 []) st=true):∀ {k:Nat} {l:List Int},slK w m u st k=some l→∀ i,i≤k→zwb (u.getD i []) (l.getD i 0)=true
 | 0,l,h,i,hi=>by
  rw [slK] at h
  rw [← Option.some.inj h,Nat.le_zero.1 hi]
  exact h0
 | k+1,l,h,i,hi=>by
  rw [slK] at h
  obtain ⟨p,hp,h⟩:=Option.bind_eq_some_iff.1 h
  have hl:=zyw hp
  unfold zyr at h
  dsimp only at h
  split at h
  ·cases h
  ·rename_i hc
   rw [not_or] at hc
   rw [← Option.some.inj h]
   rcases Nat.lt_or_ge k i with hik|hik
   ·obtain rfl:i=k+1:=by omega
    rw [zBE hl]
    exact zBZ hc.1
   ·rw [zBD (by omega)]
    exact zB0 h0 hp i hik
theorem zB1 {w:List Bool} {m:List Int} {u:List (List DWindow)} {st st':Int} (hst:0≤st∧st≤2880) (hst':0≤st'∧st'≤2880) (hle:st≤st') (hm:∀ i,i < m.length→1≤m.getD i 0∧m.getD i 0≤480):∀ {k:Nat} {l l':List Int},k≤m.length→slK w m u st k=some l→slK w m u st' k=some l'→∀ i,i≤k→l.getD i 0≤l'.getD i 0
 | 0,l,l',_,h,h',i,hi=>by
  rw [slK] at h h'
  rw [← Option.some.inj h,← Option.some.inj h',Nat.le_zero.1 hi]
  exact hle
 | k+1,l,l',hk,h,h',i,hi=>by
  rw [slK] at h h'
  obtain ⟨p,hp,h⟩:=Option.bind_eq_some_iff.1 h
  obtain ⟨p',hp',h'⟩:=Option.bind_eq_some_iff.1 h'
  have hl:=zyw hp
  have hl':=zyw hp'
  have ih:=zB1 hst hst' hle hm (k:=k) (by omega) hp hp'
  have b1:=(zzo hst hm (k:=k) (by omega) hp).2.1 k (Nat.le_refl _)
  have b2:=(zzo hst' hm (k:=k) (by omega) hp').2.1 k (Nat.le_refl _)
  have hmk:=hm k (by omega)
  have h1:=ih k (Nat.le_refl _)
  unfold zyr at h h'
  dsimp only at h h'
  rw [zjz (by omega)] at h h'
  split at h
  ·cases h
  ·rename_i hc
   split at h'
   ·cases h'
   ·rename_i hc'
    rw [not_or] at hc hc'
    rw [← Option.some.inj h,← Option.some.inj h']
    rcases Nat.lt_or_ge k i with hik|hik
    ·obtain rfl:i=k+1:=by omega
     rw [zBE hl,zBE hl']
     exact zBY (by omega) hc.1 hc'.1
    ·rw [zBD (by omega),zBD (by omega)]
     exact ih i hik
theorem Voy.mono {x:DHarbour} {a:DCall} {r:List Int} {m m':Int} {pl l pl' l':List Int} (V:Voy x a r m pl l) (V':Voy x a r m' pl' l') (h0:0≤m∧m≤2880) (h0':0≤m'∧m'≤2880) (hle:m≤m') (i:Nat) (hi:i < r.length):l.getD i 0≤l'.getD i 0 :=
 zB1 h0 h0' hle (fun j hj=>V.mi j (by have:=V.ml;omega)) (by have:=V.ml;omega) V.sl V'.sl i (by omega)
theorem Voy.has {x:DHarbour} {a:DCall} {r:List Int} {m:Int} {pl l:List Int} (V:Voy x a r m pl l) (i:Nat) (hi:i < r.length):zwb ((uL x a r).getD i []) (l.getD i 0)=true:=zB0 V.hm V.sl i (by omega)
def arrV (x:DHarbour) (a:DCall) (r l:List Int):Int:=l.getD (r.length - 1) 0+(mL x a r).getD (r.length - 1) 0
theorem Voy.opt {x:DHarbour} {a:DCall} {r:List Int} {m:Int} {pl l:List Int} (V:Voy x a r m pl l):zyJ (Con.con x) a r m=(⟨m,arrV x a r l,zyH a.ready (arrV x a r l) (mL x a r),pasL (Con.con x.chart) a.ship (zyD (Con.con x) a) pl r l r.length⟩,decide (arrV x a r l≤2880)):=by
 have h1:=V.sr
 have h2:=V.ar
 have h3:=V.ps
 unfold zyJ
 rw [show (Con.con x).forecast=Con.con x.forecast from rfl,show (Con.con x).chart=Con.con x.chart from rfl,h1]
 dsimp only
 rw [zyI,show (Con.con x).chart=Con.con x.chart from rfl,h2,h3]
 rfl
theorem Voy.cost {x:DHarbour} {a:DCall} {r:List Int} {m:Int} {pl l:List Int} (V:Voy x a r m pl l) (hr:0≤a.ready∧a.ready≤2880):zyH a.ready (arrV x a r l) (mL x a r)=arrV x a r l - a.ready - zzm (mL x a r) r.length:=by
 have hn:=V.n0
 have h1:=V.li (r.length - 1) (by omega)
 have h2:=V.mi (r.length - 1) (by omega)
 have hml:=V.ml
 have h8:=V.n8
 have h3:=zzp (m:=mL x a r) (fun i hi=>V.mi i (by omega)) (by omega) (z:=arrV x a r l - a.ready) (by unfold arrV;omega) (k:=r.length) (by omega)
 rw [List.take_of_length_le (by omega)] at h3
 rw [zyH,zjz (by unfold arrV;omega),h3]
theorem Voy.sum {x:DHarbour} {a:DCall} {r:List Int} {m:Int} {pl l:List Int} (V:Voy x a r m pl l):m+zzm (mL x a r) r.length≤arrV x a r l:=by
 have h1:=V.lo
 have hn:=V.n0
 obtain ⟨k,hk⟩:∃ k,r.length=k+1:=⟨r.length - 1,by omega⟩
 have e:zzm (mL x a r) r.length=zzm (mL x a r) (r.length - 1)+(mL x a r).getD (r.length - 1) 0:=by
  rw [show zzm (mL x a r) r.length=zzm (mL x a r) (r.length - 1+1) by rw [show r.length - 1+1=r.length by omega]]
  rfl
 unfold arrV
 omega
theorem zB2 {x:DHarbour} {a:DCall} {r:List Int} (hok:zvB (Con.con x) a=true) (hcv:cvOk (Con.con x) a r=true) {m:Int} (h0:0≤m∧m≤2880) (h2:(zyJ (Con.con x) a r m).2=true):∃ pl l,Voy x a r m pl l∧arrV x a r l≤2880:=by
 cases hs:zyB (Con.con x.forecast) (Con.con x.chart) (zyD (Con.con x) a) a.src r m with
 | none =>
  unfold zyJ at h2
  rw [show (Con.con x).forecast=Con.con x.forecast from rfl,show (Con.con x).chart=Con.con x.chart from rfl,hs] at h2
  cases h2
 | some l =>
  obtain ⟨pl,V⟩:=zBV hok hcv h0 hs
  refine ⟨pl,l,V,?_⟩
  rw [V.opt] at h2
  exact of_decide_eq_true h2
def zB3 (opt:Int→POption × Bool) (lo due s:Int) (acc:List POption):Prop:=(∀ y ∈ acc,opt y.start=(y,true)∧lo≤y.start∧y.start≤due∧(y.start - lo) % 15=0∧y.start < s)∧acc.Pairwise (fun y z=>y.start < z.start)∧acc.length≤8
theorem zB4 {opt:Int→POption × Bool} {lo due:Int} (hlo:0≤lo) (hdue:due≤2880) (hst:∀ m,(opt m).2=true→(opt m).1.start=m):∀ {f:Nat} {s:Int} {acc:List POption},lo≤s→s≤3000→(s - lo) % 15=0→zB3 opt lo due s acc→zB3 opt lo due 3000 (zy0 opt due f s acc)
 | 0,s,acc,h1,h2,h3,H=>⟨fun y hy=>by
   obtain ⟨a1,a2,a3,a4,a5⟩:=H.1 y hy
   exact ⟨a1,a2,a3,a4,by omega⟩,H.2.1,H.2.2⟩
 | f+1,s,acc,h1,h2,h3,H=>by
  unfold zy0
  split
  ·rename_i hc
   rw [zjz (by omega)]
   refine zB4 hlo hdue hst (by omega) (by omega) (by omega) ?_
   split
   ·rename_i ho
    have hs:=hst s ho
    refine ⟨fun y hy=>?_,?_,?_⟩
    ·rcases List.mem_append.1 hy with hy|hy
     ·obtain ⟨a1,a2,a3,a4,a5⟩:=H.1 y hy
      exact ⟨a1,a2,a3,a4,by omega⟩
     ·rw [List.mem_singleton.1 hy,hs]
      refine ⟨?_,h1,hc.1,h3,by omega⟩
      rw [← ho]
    ·rw [List.pairwise_append]
     refine ⟨H.2.1,List.pairwise_singleton ..,fun y hy z hz=>?_⟩
     rw [List.mem_singleton.1 hz,hs]
     exact (H.1 y hy).2.2.2.2
    ·rw [List.length_append,List.length_singleton];omega
   ·exact ⟨fun y hy=>by
     obtain ⟨a1,a2,a3,a4,a5⟩:=H.1 y hy
     exact ⟨a1,a2,a3,a4,by omega⟩,H.2.1,H.2.2⟩
  ·exact ⟨fun y hy=>by
    obtain ⟨a1,a2,a3,a4,a5⟩:=H.1 y hy
    exact ⟨a1,a2,a3,a4,by omega⟩,H.2.1,H.2.2⟩
theorem zB5 {x:zFc} {a:DCall} {r:List Int} {m:Int} (h:(zyJ x a r m).2=true):(zyJ x a r m).1.start=m:=by
 unfold zyJ at h ⊢
 split at h
 ·cases h
 ·rfl
theorem zB6 {x:zFc} {a:DCall} (h:zyd x.chart a.src a.dst=none):zy1 x a=[]:=by
 rw [zy1]
 split
 ·rw [h]
 ·rfl
theorem zB7 {x:DHarbour} {a:DCall} {r:List Int} (hok:zvB (Con.con x) a=true) (hb:zyd (Con.con x.chart) a.src a.dst=some r):zB3 (zyJ (Con.con x) a r) a.ready a.due 3000 (zy1 (Con.con x) a):=by
 obtain ⟨_,_,_,_,_,_,_,_,_,_,hr0,hr1,hr2,hr3⟩:=zyE hok
 rw [zy1,if_pos hok,show (Con.con x).chart=Con.con x.chart from rfl,hb]
 dsimp only
 exact zB4 hr0 hr3 (fun m h=>zB5 h) (Int.le_refl _) (by omega) (by rw [Int.sub_self];rfl) ⟨fun y hy=>(by cases hy),List.Pairwise.nil,Nat.zero_le _⟩
theorem zB8 {x:DHarbour} {a:DCall} {y:POption} (hy:y ∈ zy1 (Con.con x) a):zyW (Con.con x) a y=true:=by
 cases hok:zvB (Con.con x) a with
 | false=>rw [zy5 hok] at hy;cases hy
 | true =>
  cases hb:zyd (Con.con x.chart) a.src a.dst with
  | none=>rw [zB6 (show zyd (Con.con x).chart a.src a.dst=none from hb)] at hy;cases hy
  | some r =>
   obtain ⟨h1,h2,h3,h4,_⟩:=(zB7 hok hb).1 y hy
   obtain ⟨_,_,_,_,_,_,_,_,_,_,hr0,hr1,hr2,hr3⟩:=zyE hok
   have hcv:=zy4 hok hb
   obtain ⟨pl,l,V,hle⟩:=zB2 hok hcv (m:=y.start) (by omega) (by rw [h1])
   have hseg:y.pas.map (·.seg)=r:=by
    have e:=V.opt
    rw [h1] at e
    have e2:=congrArg (fun z=>z.1.pas) e
    dsimp only at e2
    rw [e2]
    refine List.ext_getElem (by rw [List.length_map,zxQ]) fun i h5 h6=>?_
    simp only [pasL,List.map_map,List.getElem_map,List.getElem_range,Function.comp,zxL]
    rw [iget h6]
   rw [zyW,hseg,zyR,if_pos,h1]
   ·rw [Bool.true_and,zut];exact decide_eq_true rfl
   ·rw [jJ,jJ,jJ,In,jJ,decide_eq_true_eq,decide_eq_true_eq]
    exact ⟨⟨⟨hok,h2,h3⟩,hcv⟩,by rw [h1]⟩
end Go.Proofs.YtdeflkhkfmjckaaGreat
