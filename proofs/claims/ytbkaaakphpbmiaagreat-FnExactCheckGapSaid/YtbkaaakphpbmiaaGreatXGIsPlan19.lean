/- What functions of the given program compute, each as a contract over what its arguments read as. No condition beside those that each theorem states. -/
import Derived.Test.YtbkaaakphpbmiaaGreatXGIsPlan18
set_option linter.unusedVariables false
set_option linter.unusedSimpArgs false
open Nat renaming reduceAdd → yqa, reduceMul → yqb, reduceBEq → yqc, reduceLeDiff → yqd, reduceLT → yqe, reduceEqDiff → yqf
open Bool renaming or_eq_false_iff → yqg, or_eq_true → yqh, and_eq_true → yqi
open Int renaming toNat_natCast → yqj, natCast_nonneg → yqk
namespace Go.Proofs.YtbkaaakphpbmiaaGreat
open Go Go.SL
set_option maxHeartbeats 1000000
def zJG (c:PChart) (f:List DShip) (p:DPassage):List DDuty:=List.replicate (f.getD p.ship.toNat dH).tugs.toNat (zJy c p p)
def tugL (c:PChart) (f:List DShip) (l:List DPassage):List DDuty:=l.flatMap (zJG c f)
def zJH (c:PChart) (f:List DShip) (l:List DPassage):Option (List DDuty):=if (∀ i,i < l.length→pOk c f l i=true)∧(tugL c f l).length≤12 then some (tugL c f l) else none
theorem zJI {c:PChart} {f:List DShip} {l:List DPassage} {k:Nat} (hk:k < l.length):tugL c f (l.take (k+1))=tugL c f (l.take k) ++ zJG c f l[k]:=by
 rw [tugL,List.take_succ_eq_append_getElem hk,List.flatMap_append,List.flatMap_cons,List.flatMap_nil,List.append_nil];rfl
theorem zJJ {c:PChart} {f:List DShip} {l:List DPassage} {k:Nat}:(tugL c f (l.take k)).length≤(tugL c f l).length:=by
 conv=>rhs;rw [← List.take_append_drop k l]
 rw [tugL,tugL,List.flatMap_append,List.length_append];omega
theorem zJK {c:PChart} {f:List DShip} {l:List DPassage} {k:Nat} (hk:k < l.length) (h:pOk c f l k=false):zJH c f l=none:=by
 rw [zJH,if_neg];intro e;rw [e.1 k hk] at h;cases h
theorem zJL {c:PChart} {f:List DShip} {l:List DPassage} {k:Nat} (h:12 < (tugL c f (l.take k)).length):zJH c f l=none:=by
 rw [zJH,if_neg];intro e;have:=zJJ (c:=c) (f:=f) (l:=l) (k:=k);omega
theorem zJM {c:DChart} {f:List DShip} {l:List DPassage} {k:Nat} (hk:k < l.length) (h:pOk (Con.con c) f l k=true):(0≤l[k].ship∧l[k].ship < f.length)∧(0≤l[k].seg∧l[k].seg < c.segments.l.length)∧0≤(f.getD l[k].ship.toNat dH).tugs∧(f.getD l[k].ship.toNat dH).tugs≤4:=by
 rw [pOk,qget hk,zI3,zI7] at h
 simp only [yqi,decide_eq_true_eq] at h
 obtain ⟨⟨_,hf⟩,hp,_⟩:=h
 refine ⟨⟨hp.1,hp.2.1⟩,⟨hp.2.2.1,hp.2.2.2.1⟩,?_⟩
 simp only [zze,yqi,decide_eq_true_eq] at hf
 have:=hf.2 l[k].ship.toNat (by omega)
 simp only [shOk,zzd,In,yqi,decide_eq_true_eq] at this
 exact this.1.2
theorem zJN {l:List DDuty} {d:DDuty} {j:Nat}:(l ++ List.replicate (j+1) d).flatMap Enc.enc=(l ++ List.replicate j d).flatMap Enc.enc ++ Enc.enc d:=by
 rw [List.replicate_succ',← List.append_assoc,List.flatMap_append (xs:=l ++ List.replicate j d)];simp
theorem zJO {c:DChart} {h:Hp} (hc:Enc.ok h c) {p:DPassage} (hp:Enc.ok h p) (h1:0≤p.seg∧p.seg < c.segments.l.length):Enc.ok h (zJy (Con.con c) p p):=by
 have hs:p.seg.toNat < c.segments.l.length:=by omega
 have o3:=hc.2.el hs
 show I64 _∧I64 _∧I64 _∧I64 _
 rw [zJy,zI4 _ _ hs]
 refine ⟨hp.2.2.1,hp.2.2.2,?_,?_⟩
 ·dsimp only;split
  ·exact o3.1
  ·exact o3.2.1
 ·dsimp only;split
  ·exact o3.2.1
  ·exact o3.1
theorem zJP {c:DChart} {h:Hp} (hc:Enc.ok h c) {f:List DShip} {l:List DPassage} {k:Nat} (hl:∀ x ∈ l,Enc.ok h x) (hk:k≤l.length) (hp:∀ i,i < k→pOk (Con.con c) f l i=true):∀ x ∈ tugL (Con.con c) f (l.take k),Enc.ok h x:=by
 intro x hx
 obtain ⟨p,hp1,hp2⟩:=List.mem_flatMap.1 hx
 obtain ⟨i,hi,rfl⟩:=List.getElem_of_mem hp1
 rw [List.length_take] at hi
 rw [List.getElem_take] at hp2
 have hi':i < l.length:=by omega
 rw [(List.mem_replicate.1 hp2).2]
 exact zJO hc (hl _ (List.getElem_mem hi')) (zJM hi' (hp i (by omega))).2.1
theorem zJQ (c:DChart) (f:Sl DShip) (a:Sl DPassage) (h:Hp) (hc:Enc.ok h c) (hf:f.Ok h) (ha:a.Ok h):Ct Tryz.prog 284 [c.v,f.val,a.val] h fun v h'=>∃ s:Sl DDuty,v=.tuple #[s.val,.bool (zJH (Con.con c) f.l a.l).isSome]∧s.l=(zJH (Con.con c) f.l a.l).getD []∧s.Ok h'∧Mine h h' s:=by
 have hl:=ha.max
 have hl2:=hf.max
 refine zdm (fun A W=>by simp) Tryz.func284 rfl rfl (by simp) fun W0=>?_
 refine Wk ?_
 refine zm6 (ι:=Nat) (fun k=>⟨[(1,true,.c (.v f.val)),(3,true,.c (.p 0 0)),(8,true,.c (.s 1)),(15,true,.c (.v a.val)),(16,true,.c (.v (.int .i64 a.l.length))),(17,true,.c (.v (.int .i64 k)))],[(0,.box 57 [.v c.points.val,.v c.segments.val]),(1,.row 303 4 (tugL (Con.con c) f.l (a.l.take k)).length ((tugL (Con.con c) f.l (a.l.take k)).flatMap Enc.enc))],h,2⟩) (fun k=>k≤a.l.length∧(∀ i,i < k→pOk (Con.con c) f.l a.l i=true)∧(tugL (Con.con c) f.l (a.l.take k)).length≤12) (fun k=>a.l.length - k) 0 ⟨Nat.zero_le _,zy7,Nat.zero_le _⟩ [0,1] ?_ ?_
 ·refine Evs ?_
  repeat' first|exact rfl|exact trivial|assumption|decide|refine And.intro ?_ ?_
 intro k hk
 refine Wk ?_
 refine zc9 rfl (fun hd=>?_) (fun hd=>?_)
 ·have hlt:=zjG hd
  repeat' first|refine zid rfl ?_|refine zc4 rfl ?_|refine zc7 ?_|refine zc8 ?_|refine zc5 ?_|refine zc6 ?_|refine zhE (fun _=>zJa c f _ _ hc hf) ?_|(simp (maxSteps:=2000000) only [go_sem,yqa,yqb,yqc,yqd,yqe,yqf,zkS ha hlt,ha.some hlt,hlt,yqj];try rfl)|refine zc3 ?_|(refine And.intro ?_ ?_;focus (intros;simp_all only [yqg,yqh,yqi,and_self,true_and,and_true];done))
  refine zc9 rfl (fun hx=>?_) (fun hx=>?_)
  ·rw [Bool.not_eq_true'] at hx
   refine Wk ?_
   rw [zJK hlt (by rw [pOk,qget hlt];exact hx)]
   exact ⟨⟨none,0,[]⟩,rfl,rfl,znu,Mine.nil⟩
  rw [Bool.not_eq_false'] at hx
  have hx:pOk (Con.con c) f.l a.l k=true:=by rw [pOk,qget hlt];exact hx
  have hall:=zy5 hk.2.1 hx
  obtain ⟨⟨i1,i2⟩,⟨g1,g2⟩,t1,t2⟩:=zJM hlt hx
  have hsh:a.l[k].ship.toNat < f.l.length:=by omega
  have hshi:a.l[k].ship < (f.l.length:Int):=i2
  have htg:(f.l.getD a.l[k].ship.toNat dH).tugs=f.l[a.l[k].ship.toNat].tugs:=by simp [List.getD_eq_getElem?_getD,hsh]
  rw [htg] at t1 t2
  obtain ⟨w,hw⟩:∃ w:Nat,f.l[a.l[k].ship.toNat].tugs=w:=⟨_,(Int.toNat_of_nonneg t1).symm⟩
  have hL:=hk.2.2
  have hsucc:=zJI (c:=Con.con c) (f:=f.l) hlt
  rw [zJG,htg,hw,yqj] at hsucc
  generalize hT:tugL (Con.con c) f.l (a.l.take k)=T0 at hsucc hL
  repeat' first|refine zid rfl ?_|refine zc4 rfl ?_|refine zc7 ?_|refine zc8 ?_|refine zc5 ?_|refine zc6 ?_|refine zhE (fun _=>zI5 c _ _ hc g1 g2) ?_|(simp (maxSteps:=2000000) only [go_sem,yqa,yqb,yqc,yqd,yqe,yqf];try rfl)|refine zc3 ?_|(refine And.intro ?_ ?_;focus (intros;simp_all only [yqg,yqh,yqi,and_self,true_and,and_true];done))
  refine zm6 (ι:=Nat) (fun j=>⟨[(1,true,.c (.v f.val)),(3,true,.c (.p 0 0)),(8,true,.c (.s 1)),(10,true,.c (.p 2 0)),(11,true,.c (.v (.int .i64 (zI1 (Con.con c) a.l[k]).1))),(12,true,.c (.v (.int .i64 (zI1 (Con.con c) a.l[k]).2))),(13,true,.c (.v (.int .i64 j))),(15,true,.c (.v a.val)),(16,true,.c (.v (.int .i64 a.l.length))),(17,true,.c (.v (.int .i64 k)))],[(0,.box 57 [.v c.points.val,.v c.segments.val]),(1,.row 303 4 (T0 ++ List.replicate j (zJy (Con.con c) a.l[k] a.l[k])).length ((T0 ++ List.replicate j (zJy (Con.con c) a.l[k] a.l[k])).flatMap Enc.enc)),(2,.box 222 [.v (.int .i64 a.l[k].ship),.v (.int .i64 a.l[k].seg),.v (.bool a.l[k].toward),.v (.int .i64 a.l[k].start),.v (.int .i64 a.l[k].fin)])],h,3⟩) (fun j=>j≤w) (fun j=>w - j) 0 (Nat.zero_le _) [0,1,2] ?_ ?_
  ·refine Evs ?_
   simp only [List.replicate_zero,List.append_nil]
   repeat' first|exact rfl|exact trivial|assumption|decide|refine And.intro ?_ ?_
  intro j hj
  have hlj:(T0 ++ List.replicate j (zJy (Con.con c) a.l[k] a.l[k])).length=T0.length+j:=by rw [List.length_append,List.length_replicate]
  have hlj1:(T0 ++ List.replicate (j+1) (zJy (Con.con c) a.l[k] a.l[k])).length=(T0 ++ List.replicate j (zJy (Con.con c) a.l[k] a.l[k])).length+1:=by simp only [List.length_append,List.length_replicate];omega
  have hlf:=zio (f:=Enc.enc) (k:=4) (fun x:DDuty=>rfl) (l:=T0 ++ List.replicate j (zJy (Con.con c) a.l[k] a.l[k]))
  have hnx:=zJN (l:=T0) (d:=zJy (Con.con c) a.l[k] a.l[k]) (j:=j)
  repeat' first|refine zid rfl ?_|refine zc4 rfl ?_|refine zc7 ?_|refine zc8 ?_|refine zc5 ?_|refine zc6 ?_|(simp (maxSteps:=2000000) only [go_sem,yqa,yqb,yqc,yqd,yqe,yqf,zmZ hf hsh,hf.some hsh,i1,hshi,hw];try rfl)|refine zc3 ?_|(refine And.intro ?_ ?_;focus (intros;simp_all only [yqg,yqh,yqi,and_self,true_and,and_true];done))
  refine zc9 rfl (fun hq=>?_) (fun hq=>?_)
  ·have hjw:=zjG hq
   refine Wk ?_
   refine ⟨by simp only [maxLen];omega,by omega,?_⟩
   refine Wk ?_
   refine ⟨j+1,[0,4,2],hjw,by omega,?_⟩
   refine Evs ?_
   rw [hnx,hlj1]
   exact ⟨zjA (zjz hjw (by omega)),rfl,rfl,by decide⟩
  ·have hge:=zjH hq
   have hje:j=w:=by omega
   subst hje
   rw [← hsucc]
   refine Wk ?_
   refine zc9 rfl (fun hm=>?_) (fun hm=>?_)
   ·have hm:=of_decide_eq_true hm
    refine Wk ?_
    rw [zJL (k:=k+1) (by omega)]
    exact ⟨⟨none,0,[]⟩,rfl,rfl,znu,Mine.nil⟩
   ·have hm:=of_decide_eq_false hm
    refine Wk ?_
    refine ⟨k+1,[0,1],⟨hlt,hall,by omega⟩,by omega,?_⟩
    refine Evs ?_
    refine ⟨zjA (zjz hlt (by omega)),?_⟩
    repeat' first|exact rfl|exact trivial|assumption|decide|refine And.intro ?_ ?_
 ·have hge:=zjH hd
  have hke:k=a.l.length:=by omega
  have htk:a.l.take k=a.l:=by rw [hke,List.take_length]
  have hF:zJH (Con.con c) f.l a.l=some (tugL (Con.con c) f.l (a.l.take k)):=by rw [zJH,htk,if_pos ⟨fun i hi=>hk.2.1 i (by omega),by rw [← htk];exact hk.2.2⟩]
  refine zc6 ?_
  refine Evs ?_
  refine zl1 1 (tugL (Con.con c) f.l (a.l.take k)) rfl rfl rfl rfl (by decide) (zJP hc ha.2.2.2.1 hk.1 hk.2.1) h (Hp.le_refl _) (Mines.flat (fun _=>rfl) (fun _=>trivial)) fun s h' e1 e2 e3 e4=>?_
  refine Wk ?_
  rw [hF]
  exact ⟨s,rfl,e1,e2,e4⟩
theorem zJR (c:DChart) (f:Sl DShip) (a:Sl DPassage) (h:Hp) (hc:Enc.ok h c) (hf:f.Ok h) (ha:a.Ok h):Ct Tryz.prog 262 [c.v,f.val,a.val] h fun v h'=>∃ s:Sl DDuty,v=.tuple #[s.val,.bool (zJH (Con.con c) f.l a.l).isSome]∧s.l=(zJH (Con.con c) f.l a.l).getD []∧s.Ok h'∧Mine h h' s:=by
 have hl:=ha.max
 have hl2:=hf.max
 refine zdm (fun A W=>by simp) Tryz.func262 rfl rfl (by simp) fun W0=>?_
 refine Wk ?_
 refine zm6 (ι:=Nat) (fun k=>⟨[(1,true,.c (.v f.val)),(3,true,.c (.p 0 0)),(8,true,.c (.s 1)),(12,true,.c (.v a.val)),(13,true,.c (.v (.int .i64 a.l.length))),(14,true,.c (.v (.int .i64 k)))],[(0,.box 57 [.v c.points.val,.v c.segments.val]),(1,.row 303 4 (tugL (Con.con c) f.l (a.l.take k)).length ((tugL (Con.con c) f.l (a.l.take k)).flatMap Enc.enc))],h,2⟩) (fun k=>k≤a.l.length∧(∀ i,i < k→pOk (Con.con c) f.l a.l i=true)∧(tugL (Con.con c) f.l (a.l.take k)).length≤12) (fun k=>a.l.length - k) 0 ⟨Nat.zero_le _,zy7,Nat.zero_le _⟩ [0,1] ?_ ?_
 ·refine Evs ?_
  repeat' first|exact rfl|exact trivial|assumption|decide|refine And.intro ?_ ?_
 intro k hk
 refine Wk ?_
 refine zc9 rfl (fun hd=>?_) (fun hd=>?_)
 ·have hlt:=zjG hd
  repeat' first|refine zid rfl ?_|refine zc4 rfl ?_|refine zc7 ?_|refine zc8 ?_|refine zc5 ?_|refine zc6 ?_|refine zhE (fun _=>zI9 c f _ _ hc hf) ?_|(simp (maxSteps:=2000000) only [go_sem,yqa,yqb,yqc,yqd,yqe,yqf,zkS ha hlt,ha.some hlt,hlt,yqj];try rfl)|refine zc3 ?_|(refine And.intro ?_ ?_;focus (intros;simp_all only [yqg,yqh,yqi,and_self,true_and,and_true];done))
  refine zc9 rfl (fun hx=>?_) (fun hx=>?_)
  ·rw [Bool.not_eq_true'] at hx
   refine Wk ?_
   rw [zJK hlt (by rw [pOk,qget hlt];exact hx)]
   exact ⟨⟨none,0,[]⟩,rfl,rfl,znu,Mine.nil⟩
  rw [Bool.not_eq_false'] at hx
  have hx:pOk (Con.con c) f.l a.l k=true:=by rw [pOk,qget hlt];exact hx
  have hall:=zy5 hk.2.1 hx
  obtain ⟨⟨i1,i2⟩,⟨g1,g2⟩,t1,t2⟩:=zJM hlt hx
  have hsh:a.l[k].ship.toNat < f.l.length:=by omega
  have hshi:a.l[k].ship < (f.l.length:Int):=i2
  have htg:(f.l.getD a.l[k].ship.toNat dH).tugs=f.l[a.l[k].ship.toNat].tugs:=by simp [List.getD_eq_getElem?_getD,hsh]
  rw [htg] at t1 t2
  obtain ⟨w,hw⟩:∃ w:Nat,f.l[a.l[k].ship.toNat].tugs=w:=⟨_,(Int.toNat_of_nonneg t1).symm⟩
  have hL:=hk.2.2
  have hsucc:=zJI (c:=Con.con c) (f:=f.l) hlt
  rw [zJG,htg,hw,yqj] at hsucc
  generalize hT:tugL (Con.con c) f.l (a.l.take k)=T0 at hsucc hL
  repeat' first|refine zid rfl ?_|refine zc4 rfl ?_|refine zc7 ?_|refine zc8 ?_|refine zc5 ?_|refine zc6 ?_|(simp (maxSteps:=2000000) only [go_sem,yqa,yqb,yqc,yqd,yqe,yqf,zmZ hf hsh,hf.some hsh,i1,hshi,hw];try rfl)|refine zc3 ?_|(refine And.intro ?_ ?_;focus (intros;simp_all only [yqg,yqh,yqi,and_self,true_and,and_true];done))
  refine zm6 (ι:=Nat) (fun j=>⟨[(1,true,.c (.v f.val)),(3,true,.c (.p 0 0)),(8,true,.c (.s 1)),(10,true,.c (.p 2 0)),(28,true,.c (.v (.int .i64 w))),(29,true,.c (.v (.int .i64 j))),(12,true,.c (.v a.val)),(13,true,.c (.v (.int .i64 a.l.length))),(14,true,.c (.v (.int .i64 k)))],[(0,.box 57 [.v c.points.val,.v c.segments.val]),(1,.row 303 4 (T0 ++ List.replicate j (zJy (Con.con c) a.l[k] a.l[k])).length ((T0 ++ List.replicate j (zJy (Con.con c) a.l[k] a.l[k])).flatMap Enc.enc)),(2,.box 222 [.v (.int .i64 a.l[k].ship),.v (.int .i64 a.l[k].seg),.v (.bool a.l[k].toward),.v (.int .i64 a.l[k].start),.v (.int .i64 a.l[k].fin)])],h,3⟩) (fun j=>j≤w) (fun j=>w - j) 0 (Nat.zero_le _) [0,1,2] ?_ ?_
  ·refine Evs ?_
   simp only [List.replicate_zero,List.append_nil]
   repeat' first|exact rfl|exact trivial|assumption|decide|refine And.intro ?_ ?_
  intro j hj
  have hlj:(T0 ++ List.replicate j (zJy (Con.con c) a.l[k] a.l[k])).length=T0.length+j:=by rw [List.length_append,List.length_replicate]
  have hlj1:(T0 ++ List.replicate (j+1) (zJy (Con.con c) a.l[k] a.l[k])).length=(T0 ++ List.replicate j (zJy (Con.con c) a.l[k] a.l[k])).length+1:=by simp only [List.length_append,List.length_replicate];omega
  have hlf:=zio (f:=Enc.enc) (k:=4) (fun x:DDuty=>rfl) (l:=T0 ++ List.replicate j (zJy (Con.con c) a.l[k] a.l[k]))
  have hnx:=zJN (l:=T0) (d:=zJy (Con.con c) a.l[k] a.l[k]) (j:=j)
  refine Wk ?_
  refine zc9 rfl (fun hq=>?_) (fun hq=>?_)
  ·have hjw:=zjG hq
   repeat' first|refine zid rfl ?_|refine zc4 rfl ?_|refine zc7 ?_|refine zc8 ?_|refine zc5 ?_|refine zc6 ?_|refine zhE (fun _=>zJD c _ _ _ hc g1 g2 g1 g2) ?_|(simp (maxSteps:=2000000) only [go_sem,yqa,yqb,yqc,yqd,yqe,yqf];try rfl)|refine zc3 ?_|(refine And.intro ?_ ?_;focus (intros;simp_all only [yqg,yqh,yqi,and_self,true_and,and_true];done))
   refine ⟨by simp only [maxLen];omega,by omega,?_⟩
   refine Wk ?_
   refine ⟨j+1,[0,4,2],hjw,by omega,?_⟩
   refine Evs ?_
   rw [hnx,hlj1]
   exact ⟨zjA (zjz hjw (by omega)),rfl,rfl,by decide⟩
  ·have hge:=zjH hq
   have hje:j=w:=by omega
   subst hje
   rw [← hsucc]
   refine Wk ?_
   refine zc9 rfl (fun hm=>?_) (fun hm=>?_)
   ·have hm:=of_decide_eq_true hm
    refine Wk ?_
    rw [zJL (k:=k+1) (by omega)]
    exact ⟨⟨none,0,[]⟩,rfl,rfl,znu,Mine.nil⟩
   ·have hm:=of_decide_eq_false hm
    refine Wk ?_
    refine ⟨k+1,[0,1],⟨hlt,hall,by omega⟩,by omega,?_⟩
    refine Evs ?_
    refine ⟨zjA (zjz hlt (by omega)),?_⟩
    repeat' first|exact rfl|exact trivial|assumption|decide|refine And.intro ?_ ?_
 ·have hge:=zjH hd
  have hke:k=a.l.length:=by omega
  have htk:a.l.take k=a.l:=by rw [hke,List.take_length]
  have hF:zJH (Con.con c) f.l a.l=some (tugL (Con.con c) f.l (a.l.take k)):=by rw [zJH,htk,if_pos ⟨fun i hi=>hk.2.1 i (by omega),by rw [← htk];exact hk.2.2⟩]
  refine zc6 ?_
  refine Evs ?_
  refine zl1 1 (tugL (Con.con c) f.l (a.l.take k)) rfl rfl rfl rfl (by decide) (zJP hc ha.2.2.2.1 hk.1 hk.2.1) h (Hp.le_refl _) (Mines.flat (fun _=>rfl) (fun _=>trivial)) fun s h' e1 e2 e3 e4=>?_
  refine Wk ?_
  rw [hF]
  exact ⟨s,rfl,e1,e2,e4⟩
end Go.Proofs.YtbkaaakphpbmiaaGreat
