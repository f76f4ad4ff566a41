/- What functions of the given program compute, as contracts. -/
import Derived.Test.YtdejfjdbcggilaaGreatSGFnRefusalsx4
import Derived.Test.YtdejfjdbcggilaaGreatXGFnRefusals8
set_option linter.unusedVariables false
set_option linter.unusedSimpArgs false
set_option maxRecDepth 4000
open Nat renaming reduceAdd → jq, reduceMul → jj, reduceBEq → jy, reduceLeDiff → jv, reduceLT → jk, reduceEqDiff → jx
open Bool renaming or_eq_false_iff → jp, or_eq_true → jQ, and_eq_true → jJ
open Int renaming toNat_natCast → jW, natCast_nonneg → jY
open Go.Proofs.Tryz renaming prog → jV
namespace Go.Proofs.YtdejfjdbcggilaaGreat
open Go Go.SL
set_option maxHeartbeats 1000000
def zGs (c:zOv) (f:List DShip) (p:DPassage):List DDuty:=List.replicate (f.getD p.ship.toNat dH).tugs.toNat (zD8 c p p)
def tugL (c:zOv) (f:List DShip) (l:List DPassage):List DDuty:=l.flatMap (zGs c f)
def zGt (c:zOv) (f:List DShip) (l:List DPassage):Option (List DDuty):=if (∀ i,i < l.length→pOk c f l i=true)∧(tugL c f l).length≤12 then some (tugL c f l) else none
theorem zGu {c:zOv} {f:List DShip} {l:List DPassage} {k:Nat} (hk:k < l.length):tugL c f (l.take (k+1))=tugL c f (l.take k) ++ zGs c f l[k]:=by
 rw [tugL,List.take_succ_eq_append_getElem hk,List.flatMap_append,List.flatMap_cons,List.flatMap_nil,List.append_nil];rfl
theorem zGv {c:zOv} {f:List DShip} {l:List DPassage} {k:Nat}:(tugL c f (l.take k)).length≤(tugL c f l).length:=by
 conv=>rhs;rw [← List.take_append_drop k l]
 rw [tugL,tugL,List.flatMap_append,List.length_append];omega
theorem zGw {c:zOv} {f:List DShip} {l:List DPassage} {k:Nat} (hk:k < l.length) (h:pOk c f l k=false):zGt c f l=none:=by
 rw [zGt,if_neg];intro e;rw [e.1 k hk] at h;cases h
theorem zGx {c:zOv} {f:List DShip} {l:List DPassage} {k:Nat} (h:12 < (tugL c f (l.take k)).length):zGt c f l=none:=by
 rw [zGt,if_neg];intro e;have:=zGv (c:=c) (f:=f) (l:=l) (k:=k);omega
theorem zGy {c:DChart} {f:List DShip} {l:List DPassage} {k:Nat} (hk:k < l.length) (h:pOk (Con.con c) f l k=true):(0≤l[k].ship∧l[k].ship < f.length)∧(0≤l[k].seg∧l[k].seg < c.segments.l.length)∧0≤(f.getD l[k].ship.toNat dH).tugs∧(f.getD l[k].ship.toNat dH).tugs≤4:=by
 rw [pOk,qget hk,zAW,zA4] at h
 simp only [jJ,decide_eq_true_eq] at h
 obtain ⟨⟨_,hf⟩,hp,_⟩:=h
 refine ⟨⟨hp.1,hp.2.1⟩,⟨hp.2.2.1,hp.2.2.2.1⟩,?_⟩
 simp only [zAl,jJ,decide_eq_true_eq] at hf
 have:=hf.2 l[k].ship.toNat (by omega)
 simp only [shOk,zAk,In,jJ,decide_eq_true_eq] at this
 exact this.1.2
theorem zGz {l:List DDuty} {d:DDuty} {j:Nat}:(l ++ List.replicate (j+1) d).flatMap Enc.enc=(l ++ List.replicate j d).flatMap Enc.enc ++ Enc.enc d:=by
 rw [List.replicate_succ',← List.append_assoc,List.flatMap_append (xs:=l ++ List.replicate j d)];simp
theorem zGA {c:DChart} {h:Hp} (hc:Enc.ok h c) {p:DPassage} (hp:Enc.ok h p) (h1:0≤p.seg∧p.seg < c.segments.l.length):Enc.ok h (zD8 (Con.con c) p p):=by
 have hs:p.seg.toNat < c.segments.l.length:=by omega
 have o3:=hc.2.el hs
 show I64 _∧I64 _∧I64 _∧I64 _
 rw [zD8,zAY _ _ hs]
 refine ⟨hp.2.2.1,hp.2.2.2,?_,?_⟩
 ·dsimp only;split
  ·exact o3.1
  ·exact o3.2.1
 ·dsimp only;split
  ·exact o3.2.1
  ·exact o3.1
theorem zGB {c:DChart} {h:Hp} (hc:Enc.ok h c) {f:List DShip} {l:List DPassage} {k:Nat} (hl:∀ x ∈ l,Enc.ok h x) (hk:k≤l.length) (hp:∀ i,i < k→pOk (Con.con c) f l i=true):∀ x ∈ tugL (Con.con c) f (l.take k),Enc.ok h x:=by
 intro x hx
 obtain ⟨p,hp1,hp2⟩:=List.mem_flatMap.1 hx
 obtain ⟨i,hi,rfl⟩:=List.getElem_of_mem hp1
 rw [List.length_take] at hi
 rw [List.getElem_take] at hp2
 have hi':i < l.length:=by omega
 rw [(List.mem_replicate.1 hp2).2]
 exact zGA hc (hl _ (List.getElem_mem hi')) (zGy hi' (hp i (by omega))).2.1
theorem zGD (c:DChart) (f:Sl DShip) (a:Sl DPassage) (h:Hp) (hc:Enc.ok h c) (hf:f.Ok h) (ha:a.Ok h):Ct jV 209 [c.v,f.val,a.val] h fun v h'=>∃ s:Sl DDuty,v=.tuple #[s.val,.bool (zGt (Con.con c) f.l a.l).isSome]∧s.l=(zGt (Con.con c) f.l a.l).getD []∧s.Ok h'∧Mine h h' s:=by
 have hl:=ha.max
 have hl2:=hf.max
 refine zdn (fun A W=>by simp) Tryz.func209 rfl rfl (by simp) fun W0=>?_
 refine Wk ?_
 refine zm1 (ι:=Nat) (fun k=>⟨[(1,true,.c (.v f.val)),(3,true,.c (.p 0 0)),(8,true,.c (.s 1)),(12,true,.c (.v a.val)),(13,true,.c (.v (.int .i64 a.l.length))),(14,true,.c (.v (.int .i64 k)))],[(0,.box 53 [.v c.points.val,.v c.segments.val]),(1,.row 265 4 (tugL (Con.con c) f.l (a.l.take k)).length ((tugL (Con.con c) f.l (a.l.take k)).flatMap Enc.enc))],h,2⟩) (fun k=>k≤a.l.length∧(∀ i,i < k→pOk (Con.con c) f.l a.l i=true)∧(tugL (Con.con c) f.l (a.l.take k)).length≤12) (fun k=>a.l.length - k) 0 ⟨Nat.zero_le _,zAe,Nat.zero_le _⟩ [0,1] ?_ ?_
 ·refine Evs ?_
  exact Gk
 intro k hk
 refine Wk ?_
 refine zc9 rfl (fun hd=>?_) (fun hd=>?_)
 ·have hlt:=zjH hd
  repeat' first|refine Wa ?_|refine zhF (fun _=>zA6 c f _ _ hc hf) ?_|(simp only [go_sem,jq,jj,jy,jv,jk,jx,zkV ha hlt,ha.some hlt,hlt,jW];try rfl)|refine Wb ?_|fail
  refine zc9 rfl (fun hx=>?_) (fun hx=>?_)
  ·rw [Bool.not_eq_true'] at hx
   refine Wk ?_
   rw [zGw hlt (by rw [pOk,qget hlt];exact hx)]
   exact ⟨⟨none,0,[]⟩,rfl,rfl,znp,Mine.nil⟩
  rw [Bool.not_eq_false'] at hx
  have hx:pOk (Con.con c) f.l a.l k=true:=by rw [pOk,qget hlt];exact hx
  have hall:=zAc hk.2.1 hx
  obtain ⟨⟨i1,i2⟩,⟨g1,g2⟩,t1,t2⟩:=zGy hlt hx
  have hsh:a.l[k].ship.toNat < f.l.length:=by omega
  have hshi:a.l[k].ship < (f.l.length:Int):=i2
  have htg:(f.l.getD a.l[k].ship.toNat dH).tugs=f.l[a.l[k].ship.toNat].tugs:=by simp [List.getD_eq_getElem?_getD,hsh]
  rw [htg] at t1 t2
  obtain ⟨w,hw⟩:∃ w:Nat,f.l[a.l[k].ship.toNat].tugs=w:=⟨_,(Int.toNat_of_nonneg t1).symm⟩
  have hL:=hk.2.2
  have hsucc:=zGu (c:=Con.con c) (f:=f.l) hlt
  rw [zGs,htg,hw,jW] at hsucc
  generalize hT:tugL (Con.con c) f.l (a.l.take k)=T0 at hsucc hL
  repeat' first|refine Wa ?_|(simp only [go_sem,jq,jj,jy,jv,jk,jx,zmU hf hsh,hf.some hsh,i1,hshi,hw];try rfl)|refine Wb ?_|fail
  refine zm1 (ι:=Nat) (fun j=>⟨[(1,true,.c (.v f.val)),(3,true,.c (.p 0 0)),(8,true,.c (.s 1)),(10,true,.c (.p 2 0)),(28,true,.c (.v (.int .i64 w))),(29,true,.c (.v (.int .i64 j))),(12,true,.c (.v a.val)),(13,true,.c (.v (.int .i64 a.l.length))),(14,true,.c (.v (.int .i64 k)))],[(0,.box 53 [.v c.points.val,.v c.segments.val]),(1,.row 265 4 (T0 ++ List.replicate j (zD8 (Con.con c) a.l[k] a.l[k])).length ((T0 ++ List.replicate j (zD8 (Con.con c) a.l[k] a.l[k])).flatMap Enc.enc)),(2,.box 154 [.v (.int .i64 a.l[k].ship),.v (.int .i64 a.l[k].seg),.v (.bool a.l[k].toward),.v (.int .i64 a.l[k].start),.v (.int .i64 a.l[k].fin)])],h,3⟩) (fun j=>j≤w) (fun j=>w - j) 0 (Nat.zero_le _) [0,1,2] ?_ ?_
  ·refine Evs ?_
   simp only [List.replicate_zero,List.append_nil]
   exact Gk
  intro j hj
  have hlj:(T0 ++ List.replicate j (zD8 (Con.con c) a.l[k] a.l[k])).length=T0.length+j:=by rw [List.length_append,List.length_replicate]
  have hlj1:(T0 ++ List.replicate (j+1) (zD8 (Con.con c) a.l[k] a.l[k])).length=(T0 ++ List.replicate j (zD8 (Con.con c) a.l[k] a.l[k])).length+1:=by simp only [List.length_append,List.length_replicate];omega
  have hlf:=ziq (f:=Enc.enc) (k:=4) (fun x:DDuty=>rfl) (l:=T0 ++ List.replicate j (zD8 (Con.con c) a.l[k] a.l[k]))
  have hnx:=zGz (l:=T0) (d:=zD8 (Con.con c) a.l[k] a.l[k]) (j:=j)
  refine Wk ?_
  refine zc9 rfl (fun hq=>?_) (fun hq=>?_)
  ·have hjw:=zjH hq
   repeat' first|refine Wa ?_|refine zhF (fun _=>zEd c _ _ _ hc g1 g2 g1 g2) ?_|(simp only [go_sem,jq,jj,jy,jv,jk,jx];try rfl)|refine Wb ?_|fail
   refine ⟨by simp only [maxLen];omega,by omega,?_⟩
   refine Wk ?_
   refine ⟨j+1,[0,4,2],hjw,by omega,?_⟩
   refine Evs ?_
   rw [hnx,hlj1]
   exact ⟨zjB (zjA hjw (by omega)),rfl,rfl,by decide⟩
  ·have hge:=zjI hq
   have hje:j=w:=by omega
   subst hje
   rw [← hsucc]
   refine Wk ?_
   refine zc9 rfl (fun hm=>?_) (fun hm=>?_)
   ·have hm:=of_decide_eq_true hm
    refine Wk ?_
    rw [zGx (k:=k+1) (by omega)]
    exact ⟨⟨none,0,[]⟩,rfl,rfl,znp,Mine.nil⟩
   ·have hm:=of_decide_eq_false hm
    refine Wk ?_
    refine ⟨k+1,[0,1],⟨hlt,hall,by omega⟩,by omega,?_⟩
    refine Evs ?_
    refine ⟨zjB (zjA hlt (by omega)),?_⟩
    exact Gk
 ·have hge:=zjI hd
  have hke:k=a.l.length:=by omega
  have htk:a.l.take k=a.l:=by rw [hke,List.take_length]
  have hF:zGt (Con.con c) f.l a.l=some (tugL (Con.con c) f.l (a.l.take k)):=by rw [zGt,htk,if_pos ⟨fun i hi=>hk.2.1 i (by omega),by rw [← htk];exact hk.2.2⟩]
  refine zc6 ?_
  refine Evs ?_
  refine zl5 1 (tugL (Con.con c) f.l (a.l.take k)) rfl rfl rfl rfl (by decide) (zGB hc ha.2.2.2.1 hk.1 hk.2.1) h (Hp.le_refl _) (Mines.flat (fun _=>rfl) (fun _=>trivial)) fun s h' e1 e2 e3 e4=>?_
  refine Wk ?_
  rw [hF]
  exact ⟨s,rfl,e1,e2,e4⟩
end Go.Proofs.YtdejfjdbcggilaaGreat
