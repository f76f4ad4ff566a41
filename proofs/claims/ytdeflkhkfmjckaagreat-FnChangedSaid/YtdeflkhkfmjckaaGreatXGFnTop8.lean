/- What functions of the given program compute, as contracts. -/
import Derived.Test.YtdeflkhkfmjckaaGreatSGFnTopx5
import Derived.Test.YtdeflkhkfmjckaaGreatXGFnTop7
set_option linter.unusedVariables false
set_option linter.unusedSimpArgs false
set_option maxRecDepth 4000
open Nat renaming reduceAdd → jq, reduceMul → jj, reduceBEq → jy, reduceLeDiff → jv, reduceLT → jk, reduceEqDiff → jx
open Bool renaming or_eq_false_iff → jp, or_eq_true → jQ, and_eq_true → jJ
open Int renaming toNat_natCast → jW, natCast_nonneg → jY
open Go.Proofs.Tryz renaming prog → jV
namespace Go.Proofs.YtdeflkhkfmjckaaGreat
open Go Go.SL
set_option maxHeartbeats 1000000
def zxf (c:zFb) (a:Int) (r:List Int):Bool:=(zwV c a r).isSome
theorem zxg {c:zFb} {a:Int} {r:List Int} (h:zva c=false):zwV c a r=none:=by rw [zwV,if_neg (by rw [h];exact Bool.false_ne_true)]
theorem zxh {c:zFb} {a:Int} {r:List Int} (h:zva c=true):zwV c a r=zwU c a r:=by rw [zwV,if_pos h]
theorem zxi {c:zFb} {a:Int} {r:List Int} (h:zxf c a r=true):zva c=true∧(0≤a∧a < c.points.length)∧∃ l,zwV c a r=some l∧ptsK c.segments a r r.length=some l∧l.length=r.length+1∧∀ x ∈ l,0≤x∧x < c.points.length:=by
 cases hC:zva c with
 | false=>rw [zxf,zxg hC] at h;cases h
 | true =>
  obtain ⟨l,hl⟩:=Option.isSome_iff_exists.1 h
  have h2:=hl
  rw [zxh hC,zwU] at h2
  split at h2
  ·rename_i ha
   exact ⟨rfl,ha,l,hl,h2,zw4 h2,zw6 hC ha h2⟩
  ·cases h2
theorem zxj {g:List DSegment} {a:Int} {r:List Int}:∀ {k:Nat} {l:List Int},ptsK g a r k=some l→k≤r.length→∀ i (hi:i < r.length),i < k→0≤r[i]∧r[i] < g.length
 | 0,l,h,hk,i,hi,hik=>absurd hik (Nat.not_lt_zero _)
 | k+1,l,h,hk,i,hi,hik=>by
  obtain ⟨p,h1,h2⟩:=zw3 h
  have h0:=(zw1 h2).1
  rcases Nat.lt_or_ge i k with h3|h3
  ·exact zxj h1 (by omega) i hi h3
  ·obtain rfl:i=k:=by omega
   rwa [List.getD_eq_getElem?_getD,List.getElem?_eq_getElem hi] at h0
theorem zxk (c:DChart) (a:Int) (r:Sl Int) (h:Hp) (hc:Enc.ok h c) (ha:I64 a) (hr:r.Ok h) (hz:r.l.length≤1048576):Ct jV 135 [c.v,.int .i64 a,r.val] h fun v h'=>v=.bool (zxf (Con.con c) a r.l)∧h'=h:=by
 refine Ct.forget ?_
 refine zdn (fun A W=>by simp) Tryz.func135 rfl rfl (by simp) fun W0=>?_
 repeat' first|refine Wa ?_|refine zhF (fun _=>zvh c _ hc) ?_|(simp only [go_sem,jq,jj,jy,jv,jk,jx];try rfl)|refine Wb ?_|fail
 refine zc9 rfl (fun hx=>?_) (fun hx=>?_)
 ·rw [Bool.not_eq_true'] at hx
  refine Wk ?_
  rw [zxf,zxg hx];rfl
 rw [Bool.not_eq_false'] at hx
 refine Wk ?_
 refine zkj (zxe c a r _ hc hr hx hz) rfl ?_
 rintro v h1 le1 ⟨s,rfl,e1,ok1⟩
 refine Wk ?_
 rw [zxf,zxh hx]
theorem zxl (c:DChart) (a:Int) (r:Sl Int) (h:Hp) (hc:Enc.ok h c) (ha:I64 a) (hr:r.Ok h) (hz:r.l.length≤1048576):Ct jV 111 [c.v,.int .i64 a,r.val] h fun v h'=>∃ s:Sl Int,v=s.val∧s.l=(zwV (Con.con c) a r.l).getD []∧s.Ok h':=by
 refine zdn (fun A W=>by simp) Tryz.func111 rfl rfl (by simp) fun W0=>?_
 repeat' first|refine Wa ?_|refine zhF (fun _=>zvh c _ hc) ?_|(simp only [go_sem,jq,jj,jy,jv,jk,jx];try rfl)|refine Wb ?_|fail
 refine zc9 rfl (fun hx=>?_) (fun hx=>?_)
 ·rw [Bool.not_eq_true'] at hx
  refine Wk ?_
  rw [zxg hx]
  exact ⟨⟨none,0,[]⟩,rfl,rfl,zmo⟩
 rw [Bool.not_eq_false'] at hx
 refine Wk ?_
 refine zkj (zxe c a r _ hc hr hx hz) rfl ?_
 rintro v h1 le1 ⟨s,rfl,e1,ok1⟩
 refine Wk ?_
 exact ⟨s,rfl,by rw [e1,zxh hx],ok1⟩
def zxm (g:List DSegment) (acc s:Int):Int:=IntKind.i64.wrap (acc+(g.getD s.toNat dG).minutes)
def rmOk (n:Nat) (r:List Int) (i:Nat):Bool:=decide (0≤r.getD i 0∧r.getD i 0 < n)
def zxn (c:zFb) (r:List Int):Int:=if zva c=true∧∀ i,i < r.length→rmOk c.segments.length r i=true then r.foldl (zxm c.segments) 0 else -1
theorem zxo {c:zFb} {r:List Int} (h:¬ (zva c=true∧∀ i,i < r.length→rmOk c.segments.length r i=true)):zxn c r=-1:=by rw [zxn,if_neg h]
theorem iget {l:List Int} {i:Nat} (hi:i < l.length):l.getD i 0=l[i]:=by simp [List.getD_eq_getElem?_getD,hi]
theorem zxp {c:zFb} {r:List Int} (h:¬ zxn c r < 0):zva c=true∧∀ i,i < r.length→rmOk c.segments.length r i=true:=by
 rw [zxn] at h
 split at h
 ·assumption
 ·omega
theorem zxq (c:DChart) (r:Sl Int) (h:Hp) (hc:Enc.ok h c) (hr:r.Ok h):Ct jV 110 [c.v,r.val] h fun v h'=>v=.int .i64 (zxn (Con.con c) r.l)∧h'=h:=by
 have hl:=hr.max
 have hgm:=hc.2.max
 have hsl:(Con.con c).segments=c.segments.l:=zvJ c
 refine zdn (fun A W=>by simp) Tryz.func110 rfl rfl (by simp) fun W0=>?_
 repeat' first|refine Wa ?_|refine zhF (fun _=>zvh c _ hc) ?_|(simp only [go_sem,jq,jj,jy,jv,jk,jx];try rfl)|refine Wb ?_|fail
 refine zc9 rfl (fun hx=>?_) (fun hx=>?_)
 ·rw [Bool.not_eq_true'] at hx
  refine Wk ?_
  rw [zxo (fun H=>by rw [hx] at H;cases H.1)]
 rw [Bool.not_eq_false'] at hx
 have hC:=hx
 refine Wk ?_
 refine zde (ι:=Nat) (fun k=>⟨[(2,true,.c (.p 0 0)),(4,true,.c (.v (.int .i64 0))),(5,true,.c (.v (.int .i64 ((r.l.take k).foldl (zxm c.segments.l) 0)))),(11,true,.c (.v r.val)),(12,true,.c (.v (.int .i64 r.l.length))),(13,true,.c (.v (.int .i64 k)))],[(0,.box 32 [.v c.points.val,.v c.segments.val])],h,1⟩) (fun k=>k≤r.l.length∧∀ i,i < k→rmOk c.segments.l.length r.l i=true) (fun k=>r.l.length - k) 0 ⟨Nat.zero_le _,zvf⟩ ?_ ?_
 ·refine Evs ?_
  exact Gk
 intro k hk
 refine Wk ?_
 refine zc9 rfl (fun hd=>?_) (fun hd=>?_)
 ·have hlt:=zjH hd
  repeat' first|refine Wa ?_|refine zhF (fun _=>zuo _ _ _) ?_|(simp only [go_sem,jq,jj,jy,jv,jk,jx,zkv hr hlt,hr.some hlt,hlt,jW];try rfl)|refine Wb ?_|fail
  skip
  refine zc9 rfl (fun hx=>?_) (fun hx=>?_)
  ·refine Wk ?_
   rw [zxo (fun H=>by
    have:=H.2 k hlt
    rw [rmOk,iget hlt,hsl,decide_eq_true_eq] at this
    rw [Bool.not_eq_true',Bool.and_eq_false_iff,decide_eq_false_iff_not,decide_eq_false_iff_not] at hx;omega)]
  have hin:0≤r.l[k]∧r.l[k] < c.segments.l.length:=by
   rw [Bool.not_eq_false',jJ,decide_eq_true_eq,decide_eq_true_eq] at hx;omega
  obtain ⟨hx0,hx1⟩:=hin
  have hsi:r.l[k].toNat < c.segments.l.length:=by omega
  repeat' first|refine Wa ?_|(simp only [go_sem,jq,jj,jy,jv,jk,jx,zlS hc.2 hsi,hc.2.some hsi,hsi,hx0,hx1,implies_true,true_and,and_true,and_self];try rfl)|refine Wb ?_|fail
  refine ⟨k+1,⟨hlt,zvd hk.2 (by rw [rmOk,iget hlt];exact decide_eq_true ⟨hx0,hx1⟩)⟩,by omega,?_⟩
  rw [zv6 hlt]
  refine ⟨?_,zjB (zjA hlt (by omega))⟩
  simp only [zxm,gget hsi]
 ·have hge:=zjI hd
  refine Wk ?_
  rw [zxn,if_pos ⟨hC,fun i hi=>by rw [hsl];exact hk.2 i (by omega)⟩,hsl,List.take_of_length_le hge]
def dQ:DPassage:=⟨0,0,false,0,0⟩
theorem qget {l:List DPassage} {i:Nat} (hi:i < l.length):l.getD i dQ=l[i]:=by simp [List.getD_eq_getElem?_getD,hi]
def chIn (n:Nat) (l:List DPassage) (i:Nat):Bool:=decide ((l.getD i dQ).ship=(l.getD 0 dQ).ship) && decide (0≤(l.getD i dQ).seg∧(l.getD i dQ).seg < (n:Int))
def chTo (c:zFb) (l:List DPassage) (i:Nat):Bool:=decide (i=0) || (decide ((zvF c (l.getD i dQ)).1=(zvF c (l.getD (i - 1) dQ)).2) && decide ((l.getD (i - 1) dQ).fin≤(l.getD i dQ).start))
def chOk (c:zFb) (l:List DPassage) (i:Nat):Bool:=chIn c.segments.length l i && chTo c l i
def zxr (c:zFb) (l:List DPassage):Bool:=zva c && decide (∀ i,i < l.length→chOk c l i=true)
theorem zxs (c:DChart):(Con.con c).segments.length=c.segments.l.length:=by rw [zvJ]
theorem zxt {n:Nat} {l:List DPassage} {i:Nat} (hi:i < l.length) (h:chIn n l i=true):0≤l[i].seg∧l[i].seg < (n:Int):=by
 rw [chIn,qget hi] at h
 exact of_decide_eq_true (Bool.and_eq_true_iff.1 h).2
theorem zxu {c:DChart} {l:List DPassage} {i:Nat} (h:chOk (Con.con c) l i=true):chIn c.segments.l.length l i=true:=by
 rw [chOk,zxs] at h
 exact (Bool.and_eq_true_iff.1 h).1
theorem zxv {c:DChart} {l:List DPassage} {i:Nat} (h:chIn c.segments.l.length l i=false):chOk (Con.con c) l i=false:=by rw [chOk,zxs,h,Bool.false_and]
theorem zxw {c:DChart} {l:List DPassage} {i:Nat} (h:chIn c.segments.l.length l i=true) (h2:chTo (Con.con c) l i=true):chOk (Con.con c) l i=true:=by rw [chOk,zxs,h,h2];rfl
theorem zxx {c:DChart} {l:List DPassage} {i:Nat} (h2:chTo (Con.con c) l i=false):chOk (Con.con c) l i=false:=by rw [chOk,h2,Bool.and_false]
theorem zxy (c:DChart) (a:Sl DPassage) (h:Hp) (hc:Enc.ok h c) (ha:a.Ok h):Ct jV 89 [c.v,a.val] h fun v h'=>v=.bool (zxr (Con.con c) a.l)∧h'=h:=by
 have hg:=hc.2
 have hl:=hg.max
 have hl2:=ha.max
 have hw:IntKind.i64.wrap ((c.segments.l.length:Int) - 1)=(c.segments.l.length:Int) - 1:=zjz (by omega)
 rw [zxr]
 refine zdn (fun A W=>by simp) Tryz.func89 rfl rfl (by simp) fun W0=>?_
 repeat' first|refine Wa ?_|refine zhF (fun _=>zvh c _ hc) ?_|(simp only [go_sem,jq,jj,jy,jv,jk,jx];try rfl)|refine Wb ?_|fail
 refine zc9 rfl (fun hC=>?_) (fun hC=>?_)
 ·rw [Bool.not_eq_true'] at hC
  rw [hC]
  exact Wk0
 rw [Bool.not_eq_false'] at hC
 rw [hC,Bool.true_and]
 refine Wk ?_
 refine zde (ι:=Nat) (fun k=>⟨[(1,true,.c (.v a.val)),(2,true,.c (.p 0 0)),(14,true,.c (.v a.val)),(15,true,.c (.v (.int .i64 a.l.length))),(16,true,.c (.v (.int .i64 k)))],[(0,.box 32 [.v c.points.val,.v c.segments.val])],h,1⟩) (fun k=>k≤a.l.length∧∀ i,i < k→chOk (Con.con c) a.l i=true) (fun k=>a.l.length - k) 0 ⟨Nat.zero_le _,zvf⟩ ?_ ?_
 ·refine Evs ?_
  exact Gk
 intro k hk
 refine Wk ?_
 refine zc9 rfl (fun hd=>?_) (fun hd=>?_)
 ·have hlt:=zjH hd
  have h0:0 < a.l.length:=by omega
  have h0i:(0:Int) < a.l.length:=by omega
  have ha0:=ha.some h0
  have hs1:=(zlO ha h0).1
  simp only [go_sem,Nat.zero_mul] at hs1
  repeat' first|refine Wa ?_|(simp only [go_sem,jq,jj,jy,jv,jk,jx,zky ha hlt,ha.some hlt,hlt,jW];try rfl)|refine Wb ?_|fail
  refine ziV rfl ?_
  refine zi3 [0,1,2,3,4,5,6,7,8,9,10,11,12] rfl (by kernel_rfl) ?_
  simp only [go_sem,jq,jj,jy,jv,jk,jx,ha0,hs1,h0i,Int.toNat_zero,Nat.zero_mul,Int.le_refl,implies_true,true_and,and_true]
  refine ziT [13] (by kernel_rfl) (by kernel_rfl) ?_
  simp only [go_sem,jq,jj,jy,jv,jk,jx,ha0,hs1,h0i,Int.toNat_zero,Nat.zero_mul,Int.le_refl,implies_true,true_and,and_true,hw]
  refine zhF (fun _=>zuo _ _ _) ?_
  simp only [go_sem,jq,jj,jy,jv,jk,jx,ha0,hs1,h0i,Int.toNat_zero,Nat.zero_mul,Int.le_refl,implies_true,true_and,and_true]
  refine zi3 [14,15] rfl (by kernel_rfl) ?_
  simp only [go_sem,jq,jj,jy,jv,jk,jx,ha0,hs1,h0i,Int.toNat_zero,Nat.zero_mul,Int.le_refl,implies_true,true_and,and_true]
  refine ziU (by kernel_rfl) ?_
  refine Wk ?_
  refine zc9 rfl (fun hq=>?_) (fun hq=>?_)
  ·have hin:chIn c.segments.l.length a.l k=false:=by
    rw [chIn,qget hlt,qget h0]
    simp only [jQ,Bool.not_eq_true',Bool.and_eq_false_iff,decide_eq_false_iff_not,bne_iff_ne] at hq ⊢
    omega
   refine Wk ?_
   rw [zvc hlt (zxv hin)]
  ·have hin:chIn c.segments.l.length a.l k=true:=by
    rw [chIn,qget hlt,qget h0]
    simp only [jp,Bool.not_eq_false',jJ,decide_eq_true_eq,bne_eq_false_iff_eq] at hq ⊢
    omega
   refine Wk ?_
   refine zc9 rfl (fun hz=>?_) (fun hz=>?_)
   ·have hk0:k=0:=by have:=eq_of_beq hz;omega
    refine Wk ?_
    refine ⟨k+1,⟨hlt,zvd hk.2 (zxw hin (by rw [chTo,decide_eq_true hk0];rfl))⟩,by omega,zjB (zjA hlt (by omega))⟩
   ·have hk0:¬ k=0:=by intro e;rw [e] at hz;cases hz
    have hk1:k - 1 < a.l.length:=by omega
    have hwk:IntKind.i64.wrap ((k:Int) - 1)=((k - 1:Nat):Int):=by rw [zjz (by omega)];omega
    obtain ⟨h3,h4⟩:=zxt hlt hin
    obtain ⟨h5,h6⟩:=zxt hk1 (zxu (hk.2 (k - 1) (by omega)))
    refine Wk ?_
    refine ziV rfl ?_
    refine zi3 [0,1,2,3,4,5] rfl (by kernel_rfl) ?_
    simp only [go_sem,jq,jj,jy,jv,jk,jx,zky ha hk1,ha.some hk1,hk1,jW,hwk]
    refine ziT [6] (by kernel_rfl) (by kernel_rfl) ?_
    simp only [go_sem,jq,jj,jy,jv,jk,jx,zky ha hk1,ha.some hk1,hk1,jW,hwk]
    refine zhF (fun _=>zvL c _ _ hc h5 h6) ?_
    simp only [go_sem,jq,jj,jy,jv,jk,jx,zky ha hk1,ha.some hk1,hk1,jW,hwk]
    refine zi3 [7,8,9,10,11] rfl (by kernel_rfl) ?_
    simp only [go_sem,jq,jj,jy,jv,jk,jx,zky ha hk1,ha.some hk1,hk1,jW,hwk]
    refine ziU (by kernel_rfl) ?_
    refine Wk ?_
    repeat' first|refine Wa ?_|refine zhF (fun _=>zvL c _ _ hc h3 h4) ?_|(simp only [go_sem,jq,jj,jy,jv,jk,jx,hwk];try rfl)|refine Wb ?_|fail
    refine zi8 rfl (by kernel_rfl) ?_
    simp only [go_sem,jq,jj,jy,jv,jk,jx,zky ha hk1,ha.some hk1,hk1,jW,hwk,zlO ha hk1]
    refine Wk ?_
    refine zc9 rfl (fun hx=>?_) (fun hx=>?_)
    ·have hto:chTo (Con.con c) a.l k=false:=by
      rw [chTo,qget hlt,qget hk1,decide_eq_false hk0,Bool.false_or]
      simp only [jQ,bne_iff_ne,decide_eq_true_eq] at hx
      rw [Bool.and_eq_false_iff,decide_eq_false_iff_not,decide_eq_false_iff_not]
      omega
     refine Wk ?_
     rw [zvc hlt (zxx hto)]
    ·have hto:chTo (Con.con c) a.l k=true:=by
      rw [chTo,qget hlt,qget hk1,decide_eq_false hk0,Bool.false_or]
      simp only [jp,bne_eq_false_iff_eq,decide_eq_false_iff_not] at hx
      rw [Bool.and_eq_true_iff,decide_eq_true_eq,decide_eq_true_eq]
      omega
     refine Wk ?_
     refine ⟨k+1,⟨hlt,zvd hk.2 (zxw hin hto)⟩,by omega,zjB (zjA hlt (by omega))⟩
 ·have hge:=zjI hd
  refine Wk ?_
  rw [zve hge hk.2]
@[go_sem] theorem zxz (t1 fs d t p af gd tk):ziY (⟨d,.build t1 fs,t,p,af,gd⟩:Oper) tk=⟨d,.build t1 fs,t,p,af,gd⟩ :: tk:=rfl
def pOk (c:zFb) (f:List DShip) (l:List DPassage) (i:Nat):Bool:=zvI c f (l.getD i dQ)
def zxA (c:zFb) (p q:DPassage):DDuty:=⟨p.start,q.fin,(zvF c p).1,(zvF c q).2⟩
def zxB (c:zFb) (f:List DShip) (l:List DPassage):DDuty × Bool :=
 if (decide (0 < l.length) && zxr c l && decide (∀ i,i < l.length→pOk c f l i=true))=true then (zxA c (l.getD 0 dQ) (l.getD (l.length - 1) dQ),true) else (⟨0,0,0,0⟩,false)
theorem zxC {c:zFb} {f:List DShip} {l:List DPassage} (h:(decide (0 < l.length) && zxr c l && decide (∀ i,i < l.length→pOk c f l i=true))=false):zxB c f l=(⟨0,0,0,0⟩,false):=by rw [zxB,if_neg (by rw [h];exact Bool.false_ne_true)]
theorem zxD {c:zFb} {f:List DShip} {l:List DPassage} (h1:0 < l.length) (h2:zxr c l=true) (h3:∀ i,i < l.length→pOk c f l i=true):zxB c f l=(zxA c (l.getD 0 dQ) (l.getD (l.length - 1) dQ),true):=by rw [zxB,if_pos (by rw [decide_eq_true h1,h2,decide_eq_true h3];rfl)]
theorem zxE {c:DChart} {l:List DPassage} (h:zxr (Con.con c) l=true) {i:Nat} (hi:i < l.length):0≤l[i].seg∧l[i].seg < (c.segments.l.length:Int) :=
 zxt hi (zxu (of_decide_eq_true (Bool.and_eq_true_iff.1 h).2 i hi))
theorem zxF (c:DChart) (p q:DPassage) (h:Hp) (hc:Enc.ok h c) (h1:0≤p.seg) (h2:p.seg < c.segments.l.length) (h3:0≤q.seg) (h4:q.seg < c.segments.l.length):Ct jV 83 [c.v,p.v,q.v] h fun v h'=>v=(zxA (Con.con c) p q).v∧h'=h:=by
 refine zdn (fun A W=>by simp) Tryz.func83 rfl rfl (by simp) fun W0=>?_
 repeat' first|refine Wa ?_|refine zhF (fun _=>zvL c p _ hc h1 h2) ?_|refine zhF (fun _=>zvL c q _ hc h3 h4) ?_|(simp only [go_sem,jq,jj,jy,jv,jk,jx];try rfl)|refine Wb ?_|fail
theorem zxG (c:DChart) (f:Sl DShip) (a:Sl DPassage) (h:Hp) (hc:Enc.ok h c) (hf:f.Ok h) (ha:a.Ok h):Ct jV 48 [c.v,f.val,a.val] h fun v h'=>v=.tuple #[(zxB (Con.con c) f.l a.l).1.v,.bool (zxB (Con.con c) f.l a.l).2]∧h'=h:=by
 have hl:=ha.max
 refine zdn (fun A W=>by simp) Tryz.func48 rfl rfl (by simp) fun W0=>?_
 repeat' first|refine Wa ?_|refine zhF (fun _=>zxy c a _ hc ha) ?_|(simp only [go_sem,jq,jj,jy,jv,jk,jx];try rfl)|refine Wb ?_|fail
 refine zc9 rfl (fun hq=>?_) (fun hq=>?_)
 ·rw [zxC (by
   simp only [jQ,Bool.not_eq_true',decide_eq_true_eq,beq_iff_eq] at hq
   rcases hq with hq|hq
   ·rw [decide_eq_false (by omega),Bool.false_and,Bool.false_and]
   ·rw [hq,Bool.and_false,Bool.false_and])]
  exact Wk0
 simp only [jp,Bool.not_eq_false',beq_eq_false_iff_ne,ne_eq,decide_eq_false_iff_not] at hq
 obtain ⟨hq1,hC⟩:=hq
 have h0:0 < a.l.length:=by omega
 refine Wk ?_
 refine zde (ι:=Nat) (fun k=>⟨[(1,true,.c (.v f.val)),(2,true,.c (.v a.val)),(3,true,.c (.p 0 0)),(6,true,.c (.p 1 0)),(20,true,.c (.v a.val)),(21,true,.c (.v (.int .i64 a.l.length))),(22,true,.c (.v (.int .i64 k)))],[(0,.box 32 [.v c.points.val,.v c.segments.val]),(1,.box 108 [.v (.int .i64 0),.v (.int .i64 0),.v (.int .i64 0),.v (.int .i64 0)])],h,2⟩) (fun k=>k≤a.l.length∧∀ i,i < k→pOk (Con.con c) f.l a.l i=true) (fun k=>a.l.length - k) 0 ⟨Nat.zero_le _,zvf⟩ ?_ ?_
 ·refine Evs ?_
  exact Gk
 intro k hk
 refine Wk ?_
 refine zc9 rfl (fun hd=>?_) (fun hd=>?_)
 ·have hlt:=zjH hd
  repeat' first|refine Wa ?_|refine zhF (fun _=>zvP c f _ _ hc hf) ?_|(simp only [go_sem,jq,jj,jy,jv,jk,jx,zky ha hlt,ha.some hlt,hlt,jW];try rfl)|refine Wb ?_|fail
  refine zc9 rfl (fun hx=>?_) (fun hx=>?_)
  ·rw [Bool.not_eq_true'] at hx
   rw [zxC (by rw [zvc hlt (by rw [pOk,qget hlt];exact hx),Bool.and_false])]
   exact Wk0
  ·rw [Bool.not_eq_false'] at hx
   refine Wk ?_
   exact ⟨k+1,⟨hlt,zvd hk.2 (by rw [pOk,qget hlt];exact hx)⟩,by omega,zjB (zjA hlt (by omega))⟩
 ·have hge:=zjI hd
  have hke:k=a.l.length:=by omega
  have hn1:a.l.length - 1 < a.l.length:=by omega
  have hwn:IntKind.i64.wrap ((a.l.length:Int) - 1)=((a.l.length - 1:Nat):Int):=by rw [zjz (by omega)];omega
  obtain ⟨h1,h2⟩:=zxE hC h0
  obtain ⟨h3,h4⟩:=zxE hC hn1
  rw [zxD h0 hC (fun i hi=>hk.2 i (by omega)),qget h0,qget hn1]
  have h0i:(0:Int) < a.l.length:=by omega
  have ha0:=ha.some h0
  have hs0:=zky ha h0
  have hs1:=(zlO ha h0)
  simp only [go_sem,Nat.zero_mul] at hs0 hs1
  refine Wk ?_
  refine ziV rfl ?_
  refine zi3 [0,1,2,3,4,5,6,7,8,9] rfl (by kernel_rfl) ?_
  simp only [go_sem,jq,jj,jy,jv,jk,jx,ha0,hs0,hs1,h0i,Int.toNat_zero,Nat.zero_mul,Int.le_refl,implies_true,true_and,and_true,zky ha hn1,ha.some hn1,hn1,jW,hwn]
  refine ziT [10] (by kernel_rfl) (by kernel_rfl) ?_
  simp only [go_sem,jq,jj,jy,jv,jk,jx,ha0,hs0,hs1,h0i,Int.toNat_zero,Nat.zero_mul,Int.le_refl,implies_true,true_and,and_true,zky ha hn1,ha.some hn1,hn1,jW,hwn]
  refine zhF (fun _=>zxF c _ _ _ hc h1 h2 h3 h4) ?_
  simp only [go_sem,jq,jj,jy,jv,jk,jx,ha0,hs0,hs1,h0i,Int.toNat_zero,Nat.zero_mul,Int.le_refl,implies_true,true_and,and_true,zky ha hn1,ha.some hn1,hn1,jW,hwn]
  refine ziT [11] (by kernel_rfl) (by kernel_rfl) ?_
  simp only [go_sem,jq,jj,jy,jv,jk,jx,ha0,hs0,hs1,h0i,Int.toNat_zero,Nat.zero_mul,Int.le_refl,implies_true,true_and,and_true,zky ha hn1,ha.some hn1,hn1,jW,hwn]
  refine zi3 [12] rfl (by kernel_rfl) ?_
  simp only [go_sem,jq,jj,jy,jv,jk,jx,ha0,hs0,hs1,h0i,Int.toNat_zero,Nat.zero_mul,Int.le_refl,implies_true,true_and,and_true,zky ha hn1,ha.some hn1,hn1,jW,hwn]
  refine ziU (by kernel_rfl) ?_
  exact Wk0
theorem zxH (s:Sl DPassage):Con.con s=s.l:=List.map_id _
theorem i64z:I64 0:=by unfold I64;omega
theorem zxI {c:DChart} {f:List DShip} {a:Sl DPassage} {h h2:Hp} (hc:Enc.ok h c) (ha:a.Ok h):Enc.ok h2 (zxB (Con.con c) f (Con.con a)).1:=by
 rw [zxH,zxB]
 split
 ·rename_i hq
  simp only [jJ,decide_eq_true_eq] at hq
  obtain ⟨⟨h0,hC⟩,-⟩:=hq
  have hn1:a.l.length - 1 < a.l.length:=by omega
  obtain ⟨h1,h2⟩:=zxE hC h0
  obtain ⟨h3,h4⟩:=zxE hC hn1
  have hs1:a.l[0].seg.toNat < c.segments.l.length:=by omega
  have hs2:a.l[a.l.length - 1].seg.toNat < c.segments.l.length:=by omega
  have o1:=ha.el h0
  have o2:=ha.el hn1
  have o3:=hc.2.el hs1
  have o4:=hc.2.el hs2
  show I64 _∧I64 _∧I64 _∧I64 _
  rw [zxA,qget h0,qget hn1,zvK _ _ hs1,zvK _ _ hs2]
  refine ⟨o1.2.2.1,o2.2.2.2,?_,?_⟩
  ·dsimp only;split
   ·exact o3.1
   ·exact o3.2.1
  ·dsimp only;split
   ·exact o4.2.1
   ·exact o4.1
 ·exact ⟨i64z,i64z,i64z,i64z⟩
def arOk (c:zFb) (s:DShip) (r st:List Int):Bool:=!decide (zxn c r < 0) && zvj s && decide (0 < r.length) && decide (r.length=st.length)
def zxJ (c:zFb) (s:DShip) (r st:List Int):Int :=
 if arOk c s r st=true then (if In (st.getD (r.length - 1) 0) 0 2880=true then IntKind.i64.wrap (st.getD (r.length - 1) 0+zvG s (c.segments.getD (r.getD (r.length - 1) 0).toNat dG)) else -1) else -1
theorem zxK {c:zFb} {s:DShip} {r st:List Int} (h:arOk c s r st=false):zxJ c s r st=-1:=by rw [zxJ,if_neg (by rw [h];exact Bool.false_ne_true)]
def zxL (c:zFb) (ship:Int) (s:DShip) (pts r st:List Int) (i:Nat):DPassage :=
 ⟨ship,r.getD i 0,pts.getD i 0 == (c.segments.getD (r.getD i 0).toNat dG).a,st.getD i 0,IntKind.i64.wrap (st.getD i 0+zvG s (c.segments.getD (r.getD i 0).toNat dG))⟩
def pasL (c:zFb) (ship:Int) (s:DShip) (pts r st:List Int) (k:Nat):List DPassage:=(List.range k).map (zxL c ship s pts r st)
def zxM (c:zFb) (s:DShip) (a:Int) (r st:List Int):Bool:=zxf c a r && zvj s && decide (r.length=st.length)
def zxN (c:zFb) (ship:Int) (s:DShip) (a:Int) (r st:List Int):List DPassage :=
 if zxM c s a r st=true∧(∀ i,i < r.length→In (st.getD i 0) 0 2880=true) then pasL c ship s ((zwV c a r).getD []) r st r.length else []
theorem zxO {c:zFb} {ship:Int} {s:DShip} {a:Int} {r st:List Int} (h:¬ (zxM c s a r st=true∧∀ i,i < r.length→In (st.getD i 0) 0 2880=true)):zxN c ship s a r st=[]:=by rw [zxN,if_neg h]
theorem zxP {c:zFb} {ship:Int} {s:DShip} {pts r st:List Int} {k:Nat}:pasL c ship s pts r st (k+1)=pasL c ship s pts r st k ++ [zxL c ship s pts r st k]:=by rw [pasL,List.range_succ,List.map_append];rfl
theorem zxQ {c:zFb} {ship:Int} {s:DShip} {pts r st:List Int} {k:Nat}:(pasL c ship s pts r st k).length=k:=by rw [pasL,List.length_map,List.length_range]
theorem zxR {c:DChart} {ship:Int} {s:DShip} {pts:List Int} {r st:Sl Int} {h h2:Hp} (hs:I64 ship) (hr:r.Ok h) (hst:st.Ok h) {k:Nat} (hk:k≤r.l.length) (hk2:k≤st.l.length):∀ x ∈ pasL (Con.con c) ship s pts r.l st.l k,Enc.ok h2 x:=fun x hx=>by
 obtain ⟨i,hi,rfl⟩:=List.mem_map.1 hx
 have hi:=List.mem_range.1 hi
 have h1:i < r.l.length:=by omega
 have h2:i < st.l.length:=by omega
 refine ⟨hs,?_,?_,i64w _⟩
 ·show I64 (r.l.getD i 0);rw [iget h1];exact hr.el h1
 ·show I64 (st.l.getD i 0);rw [iget h2];exact hst.el h2
theorem zxS (c:DChart) (s:DShip) (r t:Sl Int) (h:Hp) (hc:Enc.ok h c) (hs:Enc.ok h s) (hr:r.Ok h) (ht:t.Ok h):Ct jV 115 [c.v,s.v,r.val,t.val] h fun v h'=>v=.int .i64 (zxJ (Con.con c) s r.l t.l)∧h'=h:=by
 have hl:=hr.max
 have hl2:=ht.max
 have hsl:(Con.con c).segments=c.segments.l:=zvJ c
 refine zdn (fun A W=>by simp) Tryz.func115 rfl rfl (by simp) fun W0=>?_
 repeat' first|refine Wa ?_|refine zhF (fun _=>zxq c r _ hc hr) ?_|refine zhF (fun _=>zvq s _ hs) ?_|(simp only [go_sem,jq,jj,jy,jv,jk,jx];try rfl)|refine Wb ?_|fail
 refine zc9 rfl (fun hx=>?_) (fun hx=>?_)
 ·rw [zxK (by
   rw [arOk]
   simp only [jQ,Bool.not_eq_true',beq_iff_eq,bne_iff_ne] at hx
   rw [Bool.and_eq_false_iff,Bool.and_eq_false_iff,Bool.and_eq_false_iff,Bool.not_eq_false',decide_eq_false_iff_not,decide_eq_false_iff_not,decide_eq_true_eq]
   rcases hx with ((hx|hx)|hx)|hx
   ·exact .inl (.inl (.inl (of_decide_eq_true hx)))
   ·exact .inl (.inl (.inr hx))
   ·first|exact .inl (.inr (by omega))|exact .inr (by omega)
   ·first|exact .inr (by omega)|exact .inl (.inr (by omega)))]
  exact Wk0
 have hok:arOk (Con.con c) s r.l t.l=true:=by
  rw [arOk]
  simp only [jp,Bool.not_eq_false',beq_eq_false_iff_ne,bne_eq_false_iff_eq,ne_eq] at hx
  obtain ⟨⟨⟨h1,h2⟩,h3⟩,h4⟩:=hx
  have h1:=of_decide_eq_false h1
  rw [jJ,jJ,jJ,Bool.not_eq_true',decide_eq_false_iff_not,decide_eq_true_eq,decide_eq_true_eq]
  exact ⟨⟨⟨h1,h2⟩,by omega⟩,by omega⟩
 have hok2:=hok
 rw [arOk,jJ,jJ,jJ,Bool.not_eq_true',decide_eq_false_iff_not,decide_eq_true_eq,decide_eq_true_eq] at hok2
 obtain ⟨⟨⟨hm,hS⟩,h0⟩,hle⟩:=hok2
 obtain ⟨n,hn⟩:∃ n,r.l.length=n+1:=⟨r.l.length - 1,by omega⟩
 have hn1:n < r.l.length:=by omega
 have hn2:n < t.l.length:=by omega
 have hn1i:(n:Int) < r.l.length:=by omega
 have hn2i:(n:Int) < t.l.length:=by omega
 have hn1w:IntKind.i64.wrap ((r.l.length:Int) - 1)=(n:Int):=by rw [zjz (by omega)];omega
 have hn2w:IntKind.i64.wrap ((t.l.length:Int) - 1)=(n:Int):=by rw [zjz (by omega)];omega
 have hin:=(zxp hm).2 n hn1
 rw [rmOk,iget hn1,decide_eq_true_eq,hsl] at hin
 obtain ⟨hx0,hx1⟩:=hin
 have hsi:r.l[n].toNat < c.segments.l.length:=by omega
 have hF:zxJ (Con.con c) s r.l t.l=if In t.l[n] 0 2880=true then IntKind.i64.wrap (t.l[n]+zvG s c.segments.l[r.l[n].toNat]) else -1:=by
  rw [zxJ,if_pos hok,hn,Nat.add_sub_cancel,iget hn1,iget hn2,hsl,gget hsi]
 rw [hF]
 repeat' first|refine Wa ?_|refine zhF (fun _=>zun _ _) ?_|(simp only [go_sem,jq,jj,jy,jv,jk,jx,hn1w,hn2w,zkv hr hn1,hr.some hn1,hn1,hn1i,zkv ht hn2,ht.some hn2,hn2,hn2i,zlS hc.2 hsi,zkU hc.2 hsi,hc.2.some hsi,hsi,hx0,hx1,jW,jY,implies_true,true_and,and_true,and_self];try rfl)|refine Wb ?_|fail
 refine zc9 rfl (fun hy=>?_) (fun hy=>?_)
 ·rw [Bool.not_eq_true'] at hy
  rw [if_neg (by rw [In,hy];exact Bool.false_ne_true)]
  exact Wk0
 rw [Bool.not_eq_false'] at hy
 rw [if_pos (by rw [In,hy])]
 repeat' first|refine Wa ?_|(simp only [go_sem,jq,jj,jy,jv,jk,jx,hn1w,hn2w,zkv hr hn1,hr.some hn1,hn1,hn1i,zkv ht hn2,ht.some hn2,hn2,hn2i,zlS hc.2 hsi,zkU hc.2 hsi,hc.2.some hsi,hsi,hx0,hx1,jW,jY,implies_true,true_and,and_true,and_self];try rfl)|refine Wb ?_|fail
 refine znv rfl ?_
 refine U_t [0,1,4,5,7,8,2,6,9,3,10,11,12] rfl ?_
 simp only [go_sem,jq,jj,jy,jv,jk,jx,hn1w,hn2w,zkv hr hn1,hr.some hn1,hn1,hn1i,zkv ht hn2,ht.some hn2,hn2,hn2i,zlS hc.2 hsi,zkU hc.2 hsi,hc.2.some hsi,hsi,hx0,hx1,jW,jY,implies_true,true_and,and_true,and_self]
 refine U_1 13 0 [3,2] rfl rfl ?_
 simp only [go_sem,jq,jj,jy,jv,jk,jx,hn1w,hn2w,zkv hr hn1,hr.some hn1,hn1,hn1i,zkv ht hn2,ht.some hn2,hn2,hn2i,zlS hc.2 hsi,zkU hc.2 hsi,hc.2.some hsi,hsi,hx0,hx1,jW,jY,implies_true,true_and,and_true,and_self]
 refine zhF (fun _=>zvM _ _ _) ?_
 simp only [go_sem,jq,jj,jy,jv,jk,jx,hn1w,hn2w,zkv hr hn1,hr.some hn1,hn1,hn1i,zkv ht hn2,ht.some hn2,hn2,hn2i,zlS hc.2 hsi,zkU hc.2 hsi,hc.2.some hsi,hsi,hx0,hx1,jW,jY,implies_true,true_and,and_true,and_self]
 refine U_t [14,15] rfl ?_
 simp only [go_sem,jq,jj,jy,jv,jk,jx,hn1w,hn2w,zkv hr hn1,hr.some hn1,hn1,hn1i,zkv ht hn2,ht.some hn2,hn2,hn2i,zlS hc.2 hsi,zkU hc.2 hsi,hc.2.some hsi,hsi,hx0,hx1,jW,jY,implies_true,true_and,and_true,and_self]
 refine U_d ?_
 exact Wk0
theorem zxT (c:DChart) (ship:Int) (s:DShip) (a:Int) (r t:Sl Int) (h:Hp) (hc:Enc.ok h c) (hsh:I64 ship) (hs:Enc.ok h s) (ha:I64 a) (hr:r.Ok h) (ht:t.Ok h) (hz:r.l.length≤1048576):Ct jV 114 [c.v,.int .i64 ship,s.v,.int .i64 a,r.val,t.val] h fun v h'=>∃ q:Sl DPassage,v=q.val∧q.l=zxN (Con.con c) ship s a r.l t.l∧q.Ok h'∧Mine h h' q:=by
 have hl:=hr.max
 have hsl:(Con.con c).segments=c.segments.l:=zvJ c
 refine zdn (fun A W=>by simp) Tryz.func114 rfl rfl (by simp) fun W0=>?_
 repeat' first|refine Wa ?_|refine zhF (fun _=>zxk c a r _ hc ha hr hz) ?_|refine zhF (fun _=>zvq s _ hs) ?_|(simp only [go_sem,jq,jj,jy,jv,jk,jx];try rfl)|refine Wb ?_|fail
 refine zc9 rfl (fun hx=>?_) (fun hx=>?_)
 ·rw [zxO (fun H=>by
   have h1:=H.1
   rw [zxM,jJ,jJ,decide_eq_true_eq] at h1
   simp only [h1.1.1,h1.1.2,h1.2,Bool.not_true,Bool.or_self,Bool.false_or,bne_self_eq_false,reduceCtorEq] at hx)]
  refine Wk ?_
  exact ⟨⟨none,0,[]⟩,rfl,rfl,zmo,Mine.nil⟩
 simp only [jp,Bool.not_eq_false',bne_eq_false_iff_eq] at hx
 obtain ⟨⟨hR,hS⟩,hL⟩:=hx
 have hL:r.l.length=t.l.length:=by omega
 have hok:zxM (Con.con c) s a r.l t.l=true:=by rw [zxM,hR,hS,decide_eq_true hL];rfl
 obtain ⟨hC,hin,pl,hpl,hpk,hplen,hpx⟩:=zxi hR
 refine Wk ?_
 refine zkj (zxl c a r _ hc ha hr hz) rfl ?_
 rintro v h1 le1 ⟨p,rfl,e1,pok⟩
 rw [hpl] at e1
 have e1:p.l=pl:=e1
 have hc1:Enc.ok h1 c:=Enc.mono le1 hc
 have hs1:Enc.ok h1 s:=Enc.mono le1 hs
 have hr1:=hr.mono le1
 have ht1:=ht.mono le1
 refine Wk ?_
 refine zl0 (ι:=Nat) (fun k=>⟨[(1,true,.c (.v (.int .i64 ship))),(5,true,.c (.v t.val)),(6,true,.c (.p 0 0)),(8,true,.c (.p 1 0)),(12,true,.c (.v (.slice none 0 0))),(13,true,.c (.v p.val)),(14,true,.c (.s 2)),(40,true,.c (.v r.val)),(41,true,.c (.v (.int .i64 r.l.length))),(42,true,.c (.v (.int .i64 k)))],[(0,.box 32 [.v c.points.val,.v c.segments.val]),(1,.box 59 [.v (.string s.name),.v (.int .i64 s.length),.v (.int .i64 s.draught),.v (.int .i64 s.line),.v (.int .i64 s.tugs),.v (.bool s.slow)]),(2,.row 55 5 (pasL (Con.con c) ship s p.l r.l t.l k).length ((pasL (Con.con c) ship s p.l r.l t.l k).flatMap Enc.enc))],h1,3⟩) (fun k=>k≤r.l.length∧∀ i,i < k→In (t.l.getD i 0) 0 2880=true) (fun k=>r.l.length - k) 0 ⟨Nat.zero_le _,zvf⟩ [0,1,2] ?_ ?_
 ·refine Evs ?_
  exact Gk
 intro k hk
 refine Wk ?_
 refine zc9 rfl (fun hd=>?_) (fun hd=>?_)
 ·have hlt:=zjH hd
  have hlti:(k:Int) < r.l.length:=by omega
  have hlt2:k < t.l.length:=by omega
  have hlt2i:(k:Int) < t.l.length:=by omega
  have hlt3:k < p.l.length:=by rw [e1];omega
  have hlt3i:(k:Int) < p.l.length:=by omega
  have hseg:=zxj hpk (Nat.le_refl _) k hlt hlt
  rw [hsl] at hseg
  obtain ⟨hx0,hx1⟩:=hseg
  have hsi:r.l[k].toNat < c.segments.l.length:=by omega
  repeat' first|refine Wa ?_|refine zhF (fun _=>zun _ _) ?_|(simp only [go_sem,jq,jj,jy,jv,jk,jx,zkv hr1 hlt,hr1.some hlt,hlt,hlti,zkv ht1 hlt2,ht1.some hlt2,hlt2,hlt2i,jW,jY];try rfl)|refine Wb ?_|fail
  refine zc9 rfl (fun hy=>?_) (fun hy=>?_)
  ·rw [Bool.not_eq_true'] at hy
   rw [zxO (fun H=>by
    have:=H.2 k hlt
    rw [iget hlt2,In,hy] at this;cases this)]
   refine Wk ?_
   exact ⟨⟨none,0,[]⟩,rfl,rfl,zmo,Mine.nil⟩
  rw [Bool.not_eq_false'] at hy
  have hplk:=zxQ (c:=Con.con c) (ship:=ship) (s:=s) (pts:=p.l) (r:=r.l) (st:=t.l) (k:=k)
  have hat:zxL (Con.con c) ship s p.l r.l t.l k=⟨ship,r.l[k],p.l[k] == c.segments.l[r.l[k].toNat].a,t.l[k],IntKind.i64.wrap (t.l[k]+zvG s c.segments.l[r.l[k].toNat])⟩:=by
   rw [zxL,iget hlt,iget hlt2,iget hlt3,hsl,gget hsi]
  repeat' first|refine Wa ?_|(simp only [go_sem,jq,jj,jy,jv,jk,jx,zkv pok hlt3,pok.some hlt3,hlt3,hlt3i,zkv hr1 hlt,hr1.some hlt,hlt,hlti,zkv ht1 hlt2,ht1.some hlt2,hlt2,hlt2i,jW,jY,zlS hc1.2 hsi,zkU hc1.2 hsi,hc1.2.some hsi,hsi,hx0,hx1,implies_true,true_and,and_true,and_self];try rfl)|refine Wb ?_|fail
  refine znv rfl ?_
  refine U_t [0,1,2,3,4,7,10,11,14,15,18,19,5,8,12,16,6,13,17,9] rfl ?_
  simp only [go_sem,jq,jj,jy,jv,jk,jx,zkv pok hlt3,pok.some hlt3,hlt3,hlt3i,zkv hr1 hlt,hr1.some hlt,hlt,hlti,zkv ht1 hlt2,ht1.some hlt2,hlt2,hlt2i,jW,jY,zlS hc1.2 hsi,zkU hc1.2 hsi,hc1.2.some hsi,hsi,hx0,hx1,implies_true,true_and,and_true,and_self]
  refine U_1 20 0 [9,17,13,6,16,12,8,5,7] rfl rfl ?_
  simp only [go_sem,jq,jj,jy,jv,jk,jx,zkv pok hlt3,pok.some hlt3,hlt3,hlt3i,zkv hr1 hlt,hr1.some hlt,hlt,hlti,zkv ht1 hlt2,ht1.some hlt2,hlt2,hlt2i,jW,jY,zlS hc1.2 hsi,zkU hc1.2 hsi,hc1.2.some hsi,hsi,hx0,hx1,implies_true,true_and,and_true,and_self]
  refine zhF (fun _=>zvM _ _ _) ?_
  simp only [go_sem,jq,jj,jy,jv,jk,jx,zkv pok hlt3,pok.some hlt3,hlt3,hlt3i,zkv hr1 hlt,hr1.some hlt,hlt,hlti,zkv ht1 hlt2,ht1.some hlt2,hlt2,hlt2i,jW,jY,zlS hc1.2 hsi,zkU hc1.2 hsi,hc1.2.some hsi,hsi,hx0,hx1,implies_true,true_and,and_true,and_self]
  refine U_t [21] rfl ?_
  simp only [go_sem,jq,jj,jy,jv,jk,jx,zkv pok hlt3,pok.some hlt3,hlt3,hlt3i,zkv hr1 hlt,hr1.some hlt,hlt,hlti,zkv ht1 hlt2,ht1.some hlt2,hlt2,hlt2i,jW,jY,zlS hc1.2 hsi,zkU hc1.2 hsi,hc1.2.some hsi,hsi,hx0,hx1,implies_true,true_and,and_true,and_self]
  refine U_1 22 0 [] rfl rfl ?_
  simp only [go_sem,jq,jj,jy,jv,jk,jx,zkv pok hlt3,pok.some hlt3,hlt3,hlt3i,zkv hr1 hlt,hr1.some hlt,hlt,hlti,zkv ht1 hlt2,ht1.some hlt2,hlt2,hlt2i,jW,jY,zlS hc1.2 hsi,zkU hc1.2 hsi,hc1.2.some hsi,hsi,hx0,hx1,implies_true,true_and,and_true,and_self]
  refine U_1 23 0 [] rfl rfl ?_
  simp only [go_sem,jq,jj,jy,jv,jk,jx,zkv pok hlt3,pok.some hlt3,hlt3,hlt3i,zkv hr1 hlt,hr1.some hlt,hlt,hlti,zkv ht1 hlt2,ht1.some hlt2,hlt2,hlt2i,jW,jY,zlS hc1.2 hsi,zkU hc1.2 hsi,hc1.2.some hsi,hsi,hx0,hx1,implies_true,true_and,and_true,and_self]
  refine U_1 24 0 [] rfl rfl ?_
  simp only [go_sem,jq,jj,jy,jv,jk,jx,zkv pok hlt3,pok.some hlt3,hlt3,hlt3i,zkv hr1 hlt,hr1.some hlt,hlt,hlti,zkv ht1 hlt2,ht1.some hlt2,hlt2,hlt2i,jW,jY,zlS hc1.2 hsi,zkU hc1.2 hsi,hc1.2.some hsi,hsi,hx0,hx1,implies_true,true_and,and_true,and_self]
  refine ⟨by simp only [maxLen];omega,by omega,?_⟩
  refine U_t [25] rfl ?_
  simp only [go_sem,jq,jj,jy,jv,jk,jx,zkv pok hlt3,pok.some hlt3,hlt3,hlt3i,zkv hr1 hlt,hr1.some hlt,hlt,hlti,zkv ht1 hlt2,ht1.some hlt2,hlt2,hlt2i,jW,jY,zlS hc1.2 hsi,zkU hc1.2 hsi,hc1.2.some hsi,hsi,hx0,hx1,implies_true,true_and,and_true,and_self]
  refine U_d ?_
  refine Wk ?_
  refine ⟨k+1,[0,1,5],⟨hlt,zvd hk.2 (by rw [iget hlt2,In];exact hy)⟩,by omega,?_⟩
  refine Evs ?_
  rw [zxP,List.flatMap_append,List.length_append,hat]
  exact Gi (zjA hlt (by omega))
 ·have hge:=zjI hd
  have hke:k=r.l.length:=by omega
  subst hke
  refine zc6 ?_
  refine Evs ?_
  refine zlE 2 (pasL (Con.con c) ship s p.l r.l t.l r.l.length) rfl rfl rfl rfl (by decide) (zxR hsh hr ht (Nat.le_refl _) (by omega)) h le1 (Mines.flat (fun _=>rfl) (fun _=>trivial)) fun q h' e2 e3 e4 e5=>?_
  refine Wk ?_
  refine ⟨q,rfl,?_,e3,e5⟩
  rw [e2,zxN,if_pos ⟨hok,fun i hi=>hk.2 i hi⟩,hpl,e1];rfl
def zxU (g:List DSegment) (pts:List Int) (i:Nat):Int:=zwS (g.getD i dG) (pts.getLast?.getD 0)
def wkAt (F:List Int→List Int→List (List Int)) (g:List DSegment) (pts r:List Int) (i:Nat):List (List Int) :=
 if 0≤zxU g pts i∧zxU g pts i ∉ pts then F (pts ++ [zxU g pts i]) (r ++ [(i:Int)]) else []
def zxV (g:List DSegment) (to:Int):Nat→List Int→List Int→List (List Int)
 | 0,_,_=>[]
 | f+1,pts,r=>if pts.getLast?.getD 0=to then [r] else (List.range g.length).flatMap (wkAt (zxV g to f) g pts r)
theorem zxW {g:List DSegment} {to:Int} (hg:g.length≤10):∀ {f:Nat} {pts r:List Int},(zxV g to f pts r).length≤10 ^ f
 | 0,_,_=>Nat.zero_le _
 | f+1,pts,r=>by
  unfold zxV
  have hp:0 < 10 ^ f:=Nat.pow_pos (by decide)
  rw [Nat.pow_succ]
  split
  ·show 1≤_;omega
  ·refine Nat.le_trans (zn1 (B:=10 ^ f) fun i _=>?_) ?_
   ·unfold wkAt
    split
    ·exact zxW hg
    ·exact Nat.zero_le _
   ·rw [List.length_range]
    exact Nat.le_trans (Nat.mul_le_mul_right _ hg) (by omega)
theorem zxX {g:List DSegment} {to:Int} (hg:g.length≤10) {f k:Nat} {pts r:List Int} (hk:k≤10):((List.range k).flatMap (wkAt (zxV g to f) g pts r)).length≤k * 10 ^ f:=by
 have:=zn1 (B:=10 ^ f) (l:=List.range k) (F:=wkAt (zxV g to f) g pts r) fun i _=>by
  unfold wkAt
  split
  ·exact zxW hg
  ·exact Nat.zero_le _
 rwa [List.length_range] at this
theorem zxY {c:zFb} (h:zva c=true):c.segments.length≤10:=by
 simp only [zva,jJ,decide_eq_true_eq] at h
 exact h.1.1.2
theorem zxZ {c:zFb} (h:zva c=true) {pts:List Int} (hn:pts.Nodup) (hx:∀ x ∈ pts,0≤x∧x < c.points.length):pts.length≤8:=Nat.le_trans (zn5 hn hx) (zwX h).1
theorem zx0 (a:Sl Int) (h:Hp) (ha:a.Ok h) (hz:a.l.length≤1048576):Ct jV 107 [a.val] h fun v h'=>∃ s:Sl Int,v=s.val∧s.l=a.l∧RowAt 3 h' s∧∀ g,s.a=some ⟨g,0,none⟩→h g=none:=by
 have hall:=ha.all (by decide)
 have hd:(h.ldL a.val 1).isSome=true:=by rw [show h.ldL a.val 1=_ from hall];rfl
 refine zdn (fun A W=>by simp) Tryz.func107 rfl rfl (by simp) fun W0=>?_
 repeat' first|refine Wa ?_|(simp only [go_sem,jq,jj,jy,jv,jk,jx,hall,show h.ldL a.val 1=some (a.l.flatMap Enc.enc) from hall,Option.isSome_some,Option.getD_some];try rfl)|refine Wb ?_|fail
 refine ⟨by simp only [maxLen];omega,by omega,?_⟩
 repeat' first|refine Wa ?_|(simp only [go_sem,jq,jj,jy,jv,jk,jx,hall,show h.ldL a.val 1=some (a.l.flatMap Enc.enc) from hall,Option.isSome_some,Option.getD_some];try rfl)|refine Wb ?_|fail
 refine ⟨fun u hu=>by obtain ⟨x,_,hx⟩:=List.mem_flatMap.1 hu;exact Enc.one x u hx,by simp only [maxLen];omega,by omega,?_⟩
 refine znD 1 a.l rfl rfl (Nat.zero_add _) rfl fun s h' e1 R f1 l1 k1=>?_
 refine Wk ?_
 exact ⟨s,rfl,e1,R,f1⟩
theorem zx1 {l:List Int}:List.take 8 (metC l)=metC l:=List.take_of_length_le (by rw [zw9];exact Nat.le_refl _)
theorem zx2 {l:List Int}:List.map SC.v (metV l)=metC l:=rfl
theorem zx3 {l:List Int} {p:List (Nat × PB)}:((metC l).all fun x=>SC.okc p x)=true:=by
 rw [List.all_eq_true];intro x hx
 simp only [metC,metV,List.map_map,List.mem_map] at hx
 obtain ⟨j,_,rfl⟩:=hx
 rfl
theorem zx4 {l:List Int} {r:Nat} {v:Value}:List.map (fun x=>SC.sub r v x) (metC l)=metC l:=rfl
theorem zx5 {l:List Int}:List.map (fun x=>x.val) (metC l)=metV l:=by rw [metC,List.map_map];exact List.map_id _
def zx6 (h:Hp) (b:Nat) (s:Sl (Sl Int)) (l:List (List Int)) (v:Value) (h':Hp):Prop :=
 ∃ s':Sl (Sl Int),s'.l.map (·.l)=s.l.map (·.l) ++ l∧WB 91 36 h' b s'∧(∀ g,s'.a=some ⟨g,0,none⟩→h g=none∨s.a=some ⟨g,0,none⟩)∧(zof h b s).le (zof h' b s')
theorem zx7 (c:DChart) (hC:zva (Con.con c)=true) (to:Int) (b:Nat) :
  ∀ (f:Nat) (l0:List Int) (a:Int) (r:Sl Int) (s:Sl (Sl Int)) (h:Hp),Enc.ok (zof h b s) c→r.Ok (zof h b s)→WB 91 36 h b s→(l0 ++ [a]).Nodup→(∀ x ∈ l0 ++ [a],0≤x∧x < c.points.l.length)→(l0 ++ [a]).length+f=9→r.l.length≤(l0 ++ [a]).length→s.l.length+10 ^ f≤2000000000 →
   Cw jV 133 [c.v,.int .i64 a,.int .i64 to,r.val,.agg (metV l0).toArray,.pointer (some ⟨b,0,none⟩)] h (fun k=>k=b∨s.a=some ⟨k,0,none⟩) (zx6 h b s (zxV c.segments.l to f (l0 ++ [a]) r.l))
 | 0,l0,a,r,s,h,hc,hr,hW,hnd,hin,hlen,hrl,hol=>by
  have:=zxZ hC hnd (fun x hx=>by rw [zwZ];exact hin x hx)
  omega
 | f+1,l0,a,r,s,h,hc,hr,hW,hnd,hin,hlen,hrl,hol=>by
  have hcd:=hc
  have hrd:=hr
  replace hc:Enc.ok h c:=Enc.mono zog hc
  replace hr:r.Ok h:=hr.mono zog
  have hg10:c.segments.l.length≤10:=by rw [← zvJ];exact zxY hC
  have h8:=zxZ hC hnd (fun x hx=>by rw [zwZ];exact hin x hx)
  have hp8:c.points.l.length≤8:=by rw [← zwZ];exact (zwX hC).1
  have ha:=hin a (List.mem_append_right _ (List.mem_singleton.2 rfl))
  have wl:=hW.lds
  have hlast:(l0 ++ [a]).getLast?.getD 0=a:=by rw [List.getLast?_concat];rfl
  refine zlh (fun A W=>by simp) Tryz.func133 rfl rfl (by simp)  (fun k hk=>by
   rcases hk with rfl|hk
   ·rw [hW.1];exact fun e=>by cases e
   ·exact hW.2.1.mem hk) fun W0 hWo=>?_
  have own1:∀ g,(g=b∨s.a=some ⟨g,0,none⟩)→h g=none∨W0.own g:=fun g hg=>.inr (hWo g hg)
  repeat' first|refine Wa ?_|(simp only [go_sem,jq,jj,jy,jv,jk,jx,zx2,zx3,true_and];try rfl)|refine Wb ?_|fail
  refine zc9 rfl (fun hx=>?_) (fun hx=>?_)
  ·have hx:a=to:=eq_of_beq hx
   have hF:zxV c.segments.l to (f+1) (l0 ++ [a]) r.l=[r.l]:=by rw [zxV,if_pos (by rw [hlast];exact hx)]
   rw [hF]
   have hp10:0 < 10 ^ (f+1):=Nat.pow_pos (by decide)
   refine Wk ?_
   refine znv rfl ?_
   refine U_t [0,1,4,2,3] rfl ?_
   try simp only [go_sem,jq,jj,jy,jv,jk,jx,wl,true_or,true_and,and_true,implies_true]
   refine U_1 5 0 [3,2] rfl rfl ?_
   try simp only [go_sem,jq,jj,jy,jv,jk,jx,wl,true_or,true_and,and_true,implies_true]
   refine zkj (zx0 r _ hr (by omega)) rfl ?_
   rintro v h1 le1 ⟨q,rfl,eq1,Rq,fq⟩
   obtain ⟨W1,lb1⟩:=hW.grow le1
   have wl1:=W1.lds
   have q1:q.Ok (zof h1 b s):=(hW.beside le1 Rq fq).ok (by decide) fun x hx=>hr.2.2.2.1 x (by rw [← eq1];exact hx)
   try simp only [go_sem,jq,jj,jy,jv,jk,jx,wl1,true_or,true_and,and_true,implies_true]
   refine U_1 6 0 [3,2] rfl rfl ?_
   try simp only [go_sem,jq,jj,jy,jv,jk,jx,wl1,true_or,true_and,and_true,implies_true]
   refine U_1 7 3 [] rfl rfl ?_
   try simp only [go_sem,jq,jj,jy,jv,jk,jx,wl1,true_or,true_and,and_true,implies_true]
   refine znE (s:=s) rfl W1.2.1 (fun g hg=>own1 g (.inr hg)) ?_
   try simp only [go_sem,jq,jj,jy,jv,jk,jx]
   refine ⟨rfl,by simp only [maxLen];omega,by omega,fun ad cap h2 P=>?_⟩
   have P':Pub (znC h1 s) 36 (Enc.size (Sl Int)) (s.l ++ [q]).length ((s.l ++ [q]).flatMap Enc.enc) ad cap h2:=by
    rw [List.length_append,List.flatMap_append];exact P
   obtain ⟨b2,W2,lb2,fr2⟩:=W1.push q1 P'
   try simp only [go_sem,jq,jj,jy,jv,jk,jx,true_or,true_and]
   refine U_t [8] rfl ?_
   try simp only [go_sem,jq,jj,jy,jv,jk,jx,wl1,true_or,true_and,and_true,implies_true]
   refine U_1 9 1 [] rfl rfl ?_
   try simp only [go_sem,jq,jj,jy,jv,jk,jx,wl1,true_or,true_and,and_true,implies_true]
   refine zlC (by simp only [go_sem]) (by simp only [go_sem]) rfl rfl b2 (own1 b (.inl rfl)) (by simp) ?_
   try simp only [go_sem,jq,jj,jy,jv,jk,jx]
   refine U_d ?_
   refine Wk ?_
   rw [show (Sl.mk ad cap (s.l ++ [q])).val=.slice ad (s.l.length+1) cap from by simp only [Sl.val,List.length_append,List.length_singleton]] at W2 lb2
   rw [zoi]
   refine ⟨_,?_,W2,fun g hg=>?_,Hp.le_trans lb1 lb2⟩
   ·rw [List.map_append];simp only [List.map_cons,List.map_nil,eq1]
   ·rcases fr2 g hg with e|e
    ·exact .inl (zmx le1 e)
    ·exact .inr e
  have hx:¬ a=to:=ne_of_beq_false hx
  have hF:zxV c.segments.l to (f+1) (l0 ++ [a]) r.l=(List.range c.segments.l.length).flatMap (wkAt (zxV c.segments.l to f) c.segments.l (l0 ++ [a]) r.l):=by rw [zxV,if_neg (by rw [hlast];exact hx)]
  rw [hF]
  have ha0:=ha.1
  have ha8:a < ((8:Nat):Int):=by omega
  have ha7:a.toNat≤7:=by omega
  have ha9:a.toNat < 8:=by omega
  have hst:=zxa (l:=l0) (x:=a) ⟨ha0,by omega⟩
  refine zc5 ?_
  refine Evs ?_
  repeat' first|refine Wa ?_|(simp only [go_sem,jq,jj,jy,jv,jk,jx,ha0,ha8,ha7,ha9,hst,zw9,zx3,Nat.zero_add,Nat.mul_one,implies_true,true_and];try rfl)|refine Wb ?_|fail
  refine zoe (ι:=Nat × Hp × Sl (Sl Int)) (fun i=>⟨[(1,true,.c (.v (.int .i64 a))),(2,true,.c (.v (.int .i64 to))),(3,true,.c (.v r.val)),(5,true,.c (.v (.pointer (some ⟨b,0,none⟩)))),(6,true,.c (.p 0 0)),(10,true,.c (.p 1 0)),(30,true,.c (.v c.segments.val)),(31,true,.c (.v (.int .i64 c.segments.l.length))),(32,true,.c (.v (.int .i64 i.1)))],[(0,.box 32 [.v c.points.val,.v c.segments.val]),(1,.box 216 (metC (l0 ++ [a])))],i.2.1,2⟩)
   (fun i=>i.1≤c.segments.l.length∧WB 91 36 i.2.1 b i.2.2∧(∀ g,i.2.2.a=some ⟨g,0,none⟩→h g=none∨s.a=some ⟨g,0,none⟩)∧(zof h b s).le (zof i.2.1 b i.2.2)∧i.2.2.l.map (·.l)=s.l.map (·.l) ++ (List.range i.1).flatMap (wkAt (zxV c.segments.l to f) c.segments.l (l0 ++ [a]) r.l)) (fun i=>c.segments.l.length - i.1) (0,h,s) ⟨Nat.zero_le _,hW,fun g hg=>.inr hg,Hp.le_refl _,by simp⟩ [0,1] ?_ ?_
  ·refine Evs ?_
   exact Gk
  rintro ⟨i,hk,o⟩ ⟨hi,hWk,hfr,hle,hl⟩
  simp only at hi hWk hfr hle hl
  have hsub:(zof h b s).le hk:=Hp.le_trans hle zog
  have hck:Enc.ok hk c:=Enc.mono hsub hcd
  have hrk:=hrd.mono hsub
  have wk:=hWk.lds
  have own2:∀ g,hk g=none→h g=none∨W0.own g:=fun g hg=>by
   by_cases e1:g=b
   ·exact .inr (hWo g (.inl e1))
   by_cases e2:s.a=some ⟨g,0,none⟩
   ·exact .inr (hWo g (.inr e2))
   left
   cases hh:h g with
   | none=>rfl
   | some ob =>
    have h5:zof h b s g=some ob:=by rw [zoh hW.2.1 e1 e2];exact hh
    rw [hsub g ob h5] at hg;cases hg
  refine Wk ?_
  refine zc9 rfl (fun hd=>?_) (fun hd=>?_)
  ·have hlt:=zjH hd
   have hlti:(i:Int) < c.segments.l.length:=by omega
   obtain ⟨y,hye⟩:∃ y,zwS c.segments.l[i] a=y:=⟨_,rfl⟩
   have hwe:zxU c.segments.l (l0 ++ [a]) i=y:=by rw [zxU,gget hlt,hlast,hye]
   have hyn:y < c.points.l.length:=by
    have:=(zwY hC (i:=i) (by rw [zvJ];exact hlt) a).1
    rw [zvJ,zwZ,gget hlt,hye] at this
    exact this
   have hat:wkAt (zxV c.segments.l to f) c.segments.l (l0 ++ [a]) r.l i=if 0≤y∧y ∉ l0 ++ [a] then zxV c.segments.l to f (l0 ++ [a] ++ [y]) (r.l ++ [(i:Int)]) else []:=by rw [wkAt,hwe]
   repeat' first|refine Wa ?_|refine zhF (fun _=>zw0 c.segments.l[i] a _) ?_|(simp only [go_sem,jq,jj,jy,jv,jk,jx,zkU hck.2 hlt,hck.2.some hlt,zlS hck.2 hlt,hlt,hlti,jW,jY,implies_true,true_and,and_true,and_self];try rfl)|refine Wb ?_|fail
   rw [hye]
   by_cases hy:0≤y
   case neg =>
    rw [if_neg (fun H=>hy H.1)] at hat
    repeat' first|refine Wa ?_|(simp only [go_sem,jq,jj,jy,jv,jk,jx,eq_false hy,reduceCtorEq,decide_true,decide_false,Bool.not_true,Bool.not_false,Bool.true_or,Bool.false_or,Bool.false_and,Bool.true_and,Bool.false_eq_true,false_implies,implies_true,true_and];try rfl)|refine Wb ?_|fail
    refine zc9 rfl (fun hz=>?_) (fun hz=>?_)
    ·cases hz
    refine Wk ?_
    refine ⟨(i+1,hk,o),[0,1],⟨hlt,hWk,hfr,hle,by rw [hl,zn2,hat,List.append_nil]⟩,by simp only;omega,?_⟩
    refine Evs ?_
    exact Gi (zjA hlt (by omega))
   have hy8:y < ((8:Nat):Int):=by omega
   have hy7:y.toNat≤7:=by omega
   have hy9:y.toNat < 8:=by omega
   have hgt:=zxb (l:=l0 ++ [a]) (x:=y) ⟨hy,by omega⟩
   repeat' first|refine Wa ?_|(simp only [go_sem,jq,jj,jy,jv,jk,jx,eq_true hy,reduceCtorEq,hy8,hy7,hy9,hgt,zw9,Nat.zero_add,Nat.mul_one,decide_true,decide_false,Bool.not_true,Bool.not_false,Bool.true_or,Bool.false_or,Bool.true_and,Bool.false_eq_true,false_implies,implies_true,true_and];try rfl)|refine Wb ?_|fail
   refine zc9 rfl (fun hz=>?_) (fun hz=>?_)
   case refine_2 =>
    have hz:y ∈ l0 ++ [a]:=of_decide_eq_true (by rw [Bool.not_eq_false'] at hz;exact hz)
    rw [if_neg (fun H=>H.2 hz)] at hat
    refine Wk ?_
    refine ⟨(i+1,hk,o),[0,1],⟨hlt,hWk,hfr,hle,by rw [hl,zn2,hat,List.append_nil]⟩,by simp only;omega,?_⟩
    refine Evs ?_
    exact Gi (zjA hlt (by omega))
   have hz:y ∉ l0 ++ [a]:=of_decide_eq_false (by rw [Bool.not_eq_true'] at hz;exact hz)
   rw [if_pos ⟨hy,hz⟩] at hat
   refine Wk ?_
   refine znv rfl ?_
   refine U_t [0,1,2,3,5,8,9] rfl ?_
   simp only [go_sem,jq,jj,jy,jv,jk,jx,zx4,zx1,zw9,Nat.le_refl,implies_true,true_and]
   refine U_m 4 [6] ⟨?_,?_,trivial⟩
   ·refine U_b 4 0 [8,0] rfl rfl ?_
    refine Evs ?_
    refine zkj (zx0 r _ hrk (by omega)) rfl ?_
    rintro v h1 le1 ⟨q,rfl,eq1,Rq,fq⟩
    simp only [go_sem,jq,jj,jy,jv,jk,jx,zx4,zx1,zw9,Nat.le_refl,implies_true,true_and]
    refine U_1 6 0 [8,0] rfl rfl ?_
    simp only [go_sem,jq,jj,jy,jv,jk,jx,zx4,zx1,zw9,Nat.le_refl,implies_true,true_and]
    refine U_1 7 3 [8,0] rfl rfl ?_
    try simp only [go_sem,jq,jj,jy,jv,jk,jx]
    refine znE (s:=q) rfl Rq (fun g hg=>own2 g (fq g hg)) ?_
    try simp only [go_sem,jq,jj,jy,jv,jk,jx]
    refine ⟨rfl,by rw [eq1];simp only [maxLen];omega,by rw [eq1];omega,fun ad cap h2 P=>?_⟩
    have P':Pub (znC h1 q) 3 (Enc.size Int) (q.l ++ [(i:Int)]).length ((q.l ++ [(i:Int)]).flatMap Enc.enc) ad cap h2:=by
     rw [List.length_append,List.flatMap_append];exact P
    obtain ⟨le2,fr2⟩:=pubF (l:=q.l ++ [(i:Int)]) Rq le1 fq P'
    obtain ⟨R2,-,-⟩:=P'.row
    obtain ⟨W2,lb2⟩:=hWk.grow le2
    have k2:(Sl.mk ad cap (q.l ++ [(i:Int)])).Ok (zof h2 b o):=(hWk.beside le2 R2 fr2).ok (by decide) fun x hx=>by
     rcases List.mem_append.1 hx with hx|hx
     ·exact hrk.2.2.2.1 x (by rw [← eq1];exact hx)
     ·rw [List.mem_singleton.1 hx];show I64 _;unfold I64;omega
    rw [show Value.slice ad (q.l.length+1) cap=(Sl.mk ad cap (q.l ++ [(i:Int)])).val from by simp only [Sl.val,List.length_append,List.length_singleton]]
    try simp only [go_sem,jq,jj,jy,jv,jk,jx,zx4,zx1,zw9,Nat.le_refl,implies_true,true_and]
    refine U_1 10 1 [] rfl rfl ?_
    try simp only [go_sem,jq,jj,jy,jv,jk,jx,zx5]
    have hol2:o.l.length+10 ^ f≤2000000000:=by
     have e1:=congrArg List.length hl
     rw [List.length_map,List.length_append,List.length_map] at e1
     have e2:=zxX (to:=to) hg10 (f:=f) (k:=i) (pts:=l0 ++ [a]) (r:=r.l) (by omega)
     have e3:(i+1) * 10 ^ f≤10 * 10 ^ f:=Nat.mul_le_mul_right _ (by omega)
     rw [Nat.add_mul,Nat.one_mul] at e3
     rw [Nat.pow_succ] at hol
     omega
    refine ⟨rfl,?_⟩
    refine zli (zx7 c hC to b f (l0 ++ [a]) y (Sl.mk ad cap (q.l ++ [(i:Int)])) o h2 (Enc.mono (Hp.le_trans hle lb2) hcd) k2 W2 (by rw [List.nodup_append];exact ⟨hnd,by simp,fun u hu v hv e=>by rw [List.mem_singleton.1 hv] at e;rw [e] at hu;exact hz hu⟩) (fun x hx=>by
     rcases List.mem_append.1 hx with hx|hx
     ·exact hin x hx
     ·rw [List.mem_singleton.1 hx];exact ⟨hy,hyn⟩) (by rw [List.length_append,List.length_singleton];omega) (by rw [List.length_append,List.length_append,List.length_singleton,List.length_singleton,eq1];omega) hol2) rfl (fun k hk=>?_) ?_
    ·rcases hk with rfl|hk
     ·exact ⟨(by rw [W2.1];exact fun e=>(by cases e)),.inr (hWo _ (.inl rfl))⟩
     ·exact ⟨W2.2.1.mem hk,(hfr k hk).imp id (fun e=>hWo k (.inr e))⟩
    rintro v h4 kp ⟨s4,hs4,W4,f4,l4⟩
    try simp only [go_sem,jq,jj,jy,jv,jk,jx]
    refine U_d ?_
    refine Wk ?_
    refine ⟨(i+1,h4,s4),[0,1],⟨hlt,W4,fun g hg=>?_,Hp.le_trans hle (Hp.le_trans lb2 l4),?_⟩,by simp only;omega,?_⟩
    ·rcases f4 g hg with e|e
     ·have e0:hk g=none:=by
       cases hh:hk g with
       | none=>rfl
       | some ob=>rw [le2 g ob hh] at e;cases e
      by_cases e1:g=b
      ·rw [e1,hWk.1] at e0;cases e0
      by_cases e2:s.a=some ⟨g,0,none⟩
      ·exact .inr e2
      left
      cases hh:h g with
      | none=>rfl
      | some ob =>
       have h5:zof h b s g=some ob:=by rw [zoh hW.2.1 e1 e2];exact hh
       rw [hsub g ob h5] at e0;cases e0
     ·exact hfr g e
    ·rw [hs4,hl,zn2,hat,eq1,List.append_assoc]
    try simp only [go_sem,jq,jj,jy,jv,jk,jx]
    exact Gi (zjA hlt (by omega))
   ·refine U_b 6 0 [8,0] rfl rfl ?_
    simp only [go_sem,jq,jj,jy,jv,jk,jx,zx4,zx1,zw9,Nat.le_refl,implies_true,true_and]
    refine U_1 4 0 [8,0] rfl rfl ?_
    refine Evs ?_
    refine zkj (zx0 r _ hrk (by omega)) rfl ?_
    rintro v h1 le1 ⟨q,rfl,eq1,Rq,fq⟩
    simp only [go_sem,jq,jj,jy,jv,jk,jx,zx4,zx1,zw9,Nat.le_refl,implies_true,true_and]
    refine U_1 7 3 [8,0] rfl rfl ?_
    try simp only [go_sem,jq,jj,jy,jv,jk,jx]
    refine znE (s:=q) rfl Rq (fun g hg=>own2 g (fq g hg)) ?_
    try simp only [go_sem,jq,jj,jy,jv,jk,jx]
    refine ⟨rfl,by rw [eq1];simp only [maxLen];omega,by rw [eq1];omega,fun ad cap h2 P=>?_⟩
    have P':Pub (znC h1 q) 3 (Enc.size Int) (q.l ++ [(i:Int)]).length ((q.l ++ [(i:Int)]).flatMap Enc.enc) ad cap h2:=by
     rw [List.length_append,List.flatMap_append];exact P
    obtain ⟨le2,fr2⟩:=pubF (l:=q.l ++ [(i:Int)]) Rq le1 fq P'
    obtain ⟨R2,-,-⟩:=P'.row
    obtain ⟨W2,lb2⟩:=hWk.grow le2
    have k2:(Sl.mk ad cap (q.l ++ [(i:Int)])).Ok (zof h2 b o):=(hWk.beside le2 R2 fr2).ok (by decide) fun x hx=>by
     rcases List.mem_append.1 hx with hx|hx
     ·exact hrk.2.2.2.1 x (by rw [← eq1];exact hx)
     ·rw [List.mem_singleton.1 hx];show I64 _;unfold I64;omega
    rw [show Value.slice ad (q.l.length+1) cap=(Sl.mk ad cap (q.l ++ [(i:Int)])).val from by simp only [Sl.val,List.length_append,List.length_singleton]]
    try simp only [go_sem,jq,jj,jy,jv,jk,jx,zx4,zx1,zw9,Nat.le_refl,implies_true,true_and]
    refine U_1 10 1 [] rfl rfl ?_
    try simp only [go_sem,jq,jj,jy,jv,jk,jx,zx5]
    have hol2:o.l.length+10 ^ f≤2000000000:=by
     have e1:=congrArg List.length hl
     rw [List.length_map,List.length_append,List.length_map] at e1
     have e2:=zxX (to:=to) hg10 (f:=f) (k:=i) (pts:=l0 ++ [a]) (r:=r.l) (by omega)
     have e3:(i+1) * 10 ^ f≤10 * 10 ^ f:=Nat.mul_le_mul_right _ (by omega)
     rw [Nat.add_mul,Nat.one_mul] at e3
     rw [Nat.pow_succ] at hol
     omega
    refine ⟨rfl,?_⟩
    refine zli (zx7 c hC to b f (l0 ++ [a]) y (Sl.mk ad cap (q.l ++ [(i:Int)])) o h2 (Enc.mono (Hp.le_trans hle lb2) hcd) k2 W2 (by rw [List.nodup_append];exact ⟨hnd,by simp,fun u hu v hv e=>by rw [List.mem_singleton.1 hv] at e;rw [e] at hu;exact hz hu⟩) (fun x hx=>by
     rcases List.mem_append.1 hx with hx|hx
     ·exact hin x hx
     ·rw [List.mem_singleton.1 hx];exact ⟨hy,hyn⟩) (by rw [List.length_append,List.length_singleton];omega) (by rw [List.length_append,List.length_append,List.length_singleton,List.length_singleton,eq1];omega) hol2) rfl (fun k hk=>?_) ?_
    ·rcases hk with rfl|hk
     ·exact ⟨(by rw [W2.1];exact fun e=>(by cases e)),.inr (hWo _ (.inl rfl))⟩
     ·exact ⟨W2.2.1.mem hk,(hfr k hk).imp id (fun e=>hWo k (.inr e))⟩
    rintro v h4 kp ⟨s4,hs4,W4,f4,l4⟩
    try simp only [go_sem,jq,jj,jy,jv,jk,jx]
    refine U_d ?_
    refine Wk ?_
    refine ⟨(i+1,h4,s4),[0,1],⟨hlt,W4,fun g hg=>?_,Hp.le_trans hle (Hp.le_trans lb2 l4),?_⟩,by simp only;omega,?_⟩
    ·rcases f4 g hg with e|e
     ·have e0:hk g=none:=by
       cases hh:hk g with
       | none=>rfl
       | some ob=>rw [le2 g ob hh] at e;cases e
      by_cases e1:g=b
      ·rw [e1,hWk.1] at e0;cases e0
      by_cases e2:s.a=some ⟨g,0,none⟩
      ·exact .inr e2
      left
      cases hh:h g with
      | none=>rfl
      | some ob =>
       have h5:zof h b s g=some ob:=by rw [zoh hW.2.1 e1 e2];exact hh
       rw [hsub g ob h5] at e0;cases e0
     ·exact hfr g e
    ·rw [hs4,hl,zn2,hat,eq1,List.append_assoc]
    try simp only [go_sem,jq,jj,jy,jv,jk,jx]
    exact Gi (zjA hlt (by omega))
  ·have hge:=zjI hd
   obtain rfl:i=c.segments.l.length:=by omega
   refine Wk ?_
   exact ⟨o,hl,hWk,hfr,hle⟩
def rtIn (c:zFb) (a b:Int):Bool:=zva c && decide (0≤a∧a < c.points.length) && decide (0≤b∧b < c.points.length)
def zx8 (c:zFb) (a b:Int):List (List Int):=if rtIn c a b=true then zxV c.segments b 8 [a] [] else []
theorem zx9 {c:zFb} {a b:Int} (h:rtIn c a b=false):zx8 c a b=[]:=by rw [zx8,if_neg (by rw [h];exact Bool.false_ne_true)]
theorem zya {g:List DSegment} {to:Int}:∀ {f:Nat} {pts r:List Int},∀ x ∈ zxV g to f pts r,x.length≤r.length+f
 | 0,_,_,x,hx=>by cases hx
 | f+1,pts,r,x,hx=>by
  unfold zxV at hx
  split at hx
  ·rw [List.mem_singleton.1 hx];omega
  ·obtain ⟨i,_,hx⟩:=List.mem_flatMap.1 hx
   unfold wkAt at hx
   split at hx
   ·have:=zya x hx
    rw [List.length_append,List.length_singleton] at this
    omega
   ·cases hx
theorem zyb {c:zFb} {a b:Int}:∀ x ∈ zx8 c a b,x.length≤8:=fun x hx=>by
 rw [zx8] at hx
 split at hx
 ·have:=zya x hx;simpa using this
 ·cases hx
def zyc (m:List Int→Int) (acc:Option (List Int)) (r:List Int):Option (List Int):=match acc with
 | none=>some r
 | some x=>if m r < m x then some r else some x
def zyd (c:zFb) (a b:Int):Option (List Int):=(zx8 c a b).foldl (zyc (zxn c)) none
theorem zye {m:List Int→Int} {l0:List (List Int)}:∀ {l:List (List Int)} {acc:Option (List Int)} {x:List Int},(∀ y,acc=some y→y ∈ l0)→(∀ y ∈ l,y ∈ l0)→l.foldl (zyc m) acc=some x→x ∈ l0
 | [],acc,x,h1,h2,h=>h1 x h
 | r :: l,acc,x,h1,h2,h=>by
  refine zye (l:=l) (acc:=zyc m acc r) (fun y hy=>?_) (fun y hy=>h2 y (List.mem_cons_of_mem _ hy)) h
  unfold zyc at hy
  split at hy
  ·cases hy;exact h2 _ (List.mem_cons_self ..)
  ·rename_i z
   split at hy
   ·cases hy;exact h2 _ (List.mem_cons_self ..)
   ·cases hy;exact h1 _ rfl
theorem zyf {c:zFb} {a b:Int} {x:List Int} (h:zyd c a b=some x):x.length≤8:=zyb x (zye (acc:=none) (fun y hy=>by cases hy) (fun y hy=>hy) h)
theorem zyg {a:Int}:([a]:List Int).Nodup:=by simp
theorem zyh (c:DChart) (a b:Int) (h:Hp) (hc:Enc.ok h c) (ha:I64 a):Ct jV 109 [c.v,.int .i64 a,.int .i64 b] h fun v h'=>∃ s:Sl (Sl Int),v=s.val∧s.l.map (·.l)=zx8 (Con.con c) a b∧s.Ok h':=by
 have hgm:=hc.1.max
 have hpl:(Con.con c).points=c.points.l:=zwZ c
 refine zdn (fun A W=>by simp) Tryz.func109 rfl rfl (by simp) fun W0=>?_
 repeat' first|refine Wa ?_|refine zhF (fun _=>zvh c _ hc) ?_|refine zhF (fun _=>zuo _ _ _) ?_|(simp only [go_sem,jq,jj,jy,jv,jk,jx];try rfl)|refine Wb ?_|fail
 refine zc9 rfl (fun hx=>?_) (fun hx=>?_)
 ·rw [zx9 (by
   rw [rtIn,hpl]
   simp only [jQ,Bool.not_eq_true',Bool.and_eq_false_iff,decide_eq_false_iff_not] at hx ⊢
   rcases hx with (hx|hx)|hx
   ·exact .inl (.inl hx)
   ·exact .inl (.inr (by omega))
   ·exact .inr (by omega))]
  refine Wk ?_
  exact ⟨⟨none,0,[]⟩,rfl,rfl,zmo⟩
 simp only [jp,Bool.not_eq_false',jJ,decide_eq_true_eq] at hx
 obtain ⟨⟨hC,ha0,ha1⟩,hb0,hb1⟩:=hx
 have hin:rtIn (Con.con c) a b=true:=by
  simp only [rtIn,hC,hpl,Bool.true_and,jJ,decide_eq_true_eq];omega
 rw [zx8,if_pos hin,zvJ]
 refine zc5 ?_
 refine Evs ?_
 refine zc3 ?_
 refine zc4 rfl ?_
 refine Evs ?_
 refine znD 1 ([]:List (Sl Int)) rfl rfl rfl rfl fun s0 h1 e0 R0 f0 l1 k1=>?_
 refine Evs ?_
 refine zmE 2 rfl rfl fun g hg hown=>?_
 have l1:h.le h1:=l1
 have hg:h1 g=none:=hg
 have f0:∀ g,s0.a=some ⟨g,0,none⟩→h g=none:=f0
 have hown:W0.own g:=hown
 refine Evs ?_
 have hbd:znC h1 s0 g=none:=by
  cases hh:znC h1 s0 g with
  | none=>rfl
  | some o=>have:=znY g o hh;rw [hg] at this;cases this
 have hle2:h1.le (h1.ins g (.cells #[s0.val] 91 (0,0))):=Hp.ins_le hg
 have hs0g:s0.a ≠ some ⟨g,0,none⟩:=fun e=>R0.mem e hg
 have W0':WB 91 36 (h1.ins g (.cells #[s0.val] 91 (0,0))) g s0 :=
  ⟨Hp.ins_same,R0.keep fun g' hg'=>Hp.ins_ne (fun e=>by subst e;exact hs0g hg'),hs0g,fun x hx=>by rw [e0] at hx;cases hx⟩
 have hb0':h.le (zof (h1.ins g (.cells #[s0.val] 91 (0,0))) g s0):=fun k o hk=>by
  rw [zoh W0'.2.1 (fun e=>by subst e;rw [l1 _ o hk] at hg;cases hg) (fun e=>by rw [f0 k e] at hk;cases hk)]
  exact hle2 k o (l1 k o hk)
 first|refine zmR [0,0,0,0,1] rfl ?_|refine zmQ [0,0,0,0,1] rfl ?_|(refine zc3 ?_;first|refine zmR [0,0,0,0,1] rfl ?_|refine zmQ [0,0,0,0,1] rfl ?_)
 refine Evs ?_
 refine zli (zx7 c hC b g 8 [] a (Sl.mk none 0 []) s0 _ (Enc.mono hb0' hc) zmo W0' zyg (fun x hx=>by rw [List.mem_singleton.1 hx];omega) rfl (Nat.zero_le _) (by rw [e0];show 0+10 ^ 8≤2000000000;decide)) rfl (fun k hk=>?_) ?_
 ·rcases hk with rfl|hk
  ·exact ⟨(by rw [Hp.ins_same];exact fun e=>(by cases e)),.inr hown⟩
  ·exact ⟨W0'.2.1.mem hk,.inl (f0 k hk)⟩
 rintro v h4 kp ⟨s,hs,Ws,fs,les⟩
 try simp only [go_sem,jq,jj,jy,jv,jk,jx]
 repeat' first|refine Wa ?_|(simp only [go_sem,jq,jj,jy,jv,jk,jx,Ws.lds];try rfl)|refine Wb ?_|fail
 exact ⟨s,rfl,by rw [hs,e0];rfl,Ws.2.1.ok (by decide) fun x hx=>Enc.mono zog (Ws.2.2.2 x hx)⟩
theorem zyi {m:List Int→Int} {l:List (Sl Int)} {k:Nat} (hk:k < l.length):((l.take (k+1)).map (·.l)).foldl (zyc m) none=zyc m (((l.take k).map (·.l)).foldl (zyc m) none) l[k].l:=by
 rw [List.take_succ_eq_append_getElem hk,List.map_append,List.foldl_append];rfl
theorem zyj (c:DChart) (a b:Int) (h:Hp) (hc:Enc.ok h c) (ha:I64 a):Ct jV 71 [c.v,.int .i64 a,.int .i64 b] h fun v h'=>∃ s:Sl Int,v=.tuple #[s.val,.bool (zyd (Con.con c) a b).isSome]∧s.l=(zyd (Con.con c) a b).getD []∧s.Ok h':=by
 refine zdn (fun A W=>by simp) Tryz.func71 rfl rfl (by simp) fun W0=>?_
 refine Wk ?_
 refine zkj (zyh c a b _ hc ha) rfl ?_
 rintro v h2 le2 ⟨r,rfl,er,okr⟩
 have hc2:Enc.ok h2 c:=Enc.mono le2 hc
 have hl:=okr.max
 refine Wk ?_
 refine zc9 rfl (fun hz=>?_) (fun hz=>?_)
 ·have hz:r.l=[]:=List.length_eq_zero_iff.1 (by have:=eq_of_beq hz;omega)
  have hF:zyd (Con.con c) a b=none:=by rw [zyd,← er,hz];rfl
  refine Wk ?_
  rw [hF]
  exact ⟨⟨none,0,[]⟩,rfl,rfl,zmo⟩
 have h0:0 < r.l.length:=by have:=ne_of_beq_false hz;omega
 have h0i:(0:Int) < r.l.length:=by omega
 have hat0:=zku okr h0
 simp only [go_sem,Nat.zero_mul] at hat0
 repeat' first|refine Wa ?_|(simp only [go_sem,jq,jj,jy,jv,jk,jx,hat0,okr.some h0,h0,h0i,Int.toNat_zero,Nat.zero_mul,Int.le_refl,implies_true,true_and,and_true];try rfl)|refine Wb ?_|fail
 refine zl0 (ι:=Nat × Sl Int) (fun i=>⟨[(3,true,.c (.p 0 0)),(6,true,.c (.v (.slice none 0 0))),(7,true,.c (.v (.bool false))),(9,true,.c (.v i.2.val)),(22,true,.c (.v r.val)),(23,true,.c (.v (.int .i64 r.l.length))),(24,true,.c (.v (.int .i64 i.1)))],[(0,.box 32 [.v c.points.val,.v c.segments.val])],h2,1⟩) (fun i=>i.1≤r.l.length∧i.2.Ok h2∧((i.1=0∧i.2=r.l[0])∨((r.l.take i.1).map (·.l)).foldl (zyc (zxn (Con.con c))) none=some i.2.l)) (fun i=>r.l.length - i.1) (0,r.l[0]) ⟨Nat.zero_le _,okr.el h0,.inl ⟨rfl,rfl⟩⟩ [0] ?_ ?_
 ·refine Evs ?_
  exact Gk
 rintro ⟨k,q⟩ ⟨hk,okq,hF⟩
 simp only at hk okq hF
 refine Wk ?_
 refine zc9 rfl (fun hd=>?_) (fun hd=>?_)
 ·have hlt:=zjH hd
  have okk:=okr.el hlt
  have hnx:=zyi (m:=zxn (Con.con c)) hlt
  have hnx2:((r.l.take (k+1)).map (·.l)).foldl (zyc (zxn (Con.con c))) none=if zxn (Con.con c) r.l[k].l < zxn (Con.con c) q.l then some r.l[k].l else some q.l:=by
   rw [hnx]
   rcases hF with ⟨rfl,rfl⟩|hF
   ·rw [if_neg (Int.lt_irrefl _)];rfl
   ·rw [hF];rfl
  repeat' first|refine Wa ?_|(simp only [go_sem,jq,jj,jy,jv,jk,jx,zku okr hlt,okr.some hlt,hlt,jW,jY];try rfl)|refine Wb ?_|fail
  refine znv rfl ?_
  refine U_t [0,1,3,4] rfl ?_
  simp only [go_sem,jq,jj,jy,jv,jk,jx,zku okr hlt,okr.some hlt,hlt,jW,jY]
  refine U_1 2 0 [3] rfl rfl ?_
  simp only [go_sem,jq,jj,jy,jv,jk,jx,zku okr hlt,okr.some hlt,hlt,jW,jY]
  refine zhF (fun _=>zxq c r.l[k] _ hc2 okk) ?_
  simp only [go_sem,jq,jj,jy,jv,jk,jx,zku okr hlt,okr.some hlt,hlt,jW,jY]
  refine U_1 5 0 [] rfl rfl ?_
  simp only [go_sem,jq,jj,jy,jv,jk,jx,zku okr hlt,okr.some hlt,hlt,jW,jY]
  refine zhF (fun _=>zxq c q _ hc2 okq) ?_
  simp only [go_sem,jq,jj,jy,jv,jk,jx,zku okr hlt,okr.some hlt,hlt,jW,jY]
  refine U_t [6] rfl ?_
  simp only [go_sem,jq,jj,jy,jv,jk,jx,zku okr hlt,okr.some hlt,hlt,jW,jY]
  refine U_d ?_
  refine Wk ?_
  refine zc9 rfl (fun hz=>?_) (fun hz=>?_)
  ·have hz:=of_decide_eq_true hz
   refine Wk ?_
   refine ⟨(k+1,r.l[k]),[0],⟨hlt,okk,.inr (by rw [hnx2,if_pos hz])⟩,by simp only;omega,?_⟩
   refine Evs ?_
   exact Gi (zjA hlt (by omega))
  ·have hz:=of_decide_eq_false hz
   refine Wk ?_
   refine ⟨(k+1,q),[0],⟨hlt,okq,.inr (by rw [hnx2,if_neg hz])⟩,by simp only;omega,?_⟩
   refine Evs ?_
   exact Gi (zjA hlt (by omega))
 ·have hge:=zjI hd
  obtain rfl:k=r.l.length:=by omega
  have hF:zyd (Con.con c) a b=some q.l:=by
   rcases hF with ⟨e,_⟩|hF
   ·omega
   ·rw [List.take_length,er] at hF;exact hF
  refine Wk ?_
  rw [hF]
  exact ⟨q,rfl,rfl,okq⟩
theorem zyk {c:DChart} {s:DShip} {h:Hp} (hc:Enc.ok h c) (i:Nat):I64 (zvG s ((Con.con c).segments.getD i dG)):=by
 unfold zvG
 split
 ·exact i64w _
 ·rw [zvJ]
  by_cases hi:i < c.segments.l.length
  ·rw [gget hi];exact (hc.2.el hi).2.2.2
  ·rw [List.getD_eq_getElem?_getD,List.getElem?_eq_none (by omega)];exact i64z
def voOk (f:zFa) (c:zFb) (s:DShip) (a:Int) (r:List Int):Bool:=zuY f && zvj s && zxf c a r && decide (0 < r.length)
def zyl (c:zFb) (pts:List Int) (k:Nat):List Bool:=(List.range k).map fun i=>(c.points.getD (pts.getD i 0).toNat dP).wait
def minL (c:zFb) (s:DShip) (r:List Int) (k:Nat):List Int:=(List.range k).map fun i=>zvG s (c.segments.getD (r.getD i 0).toNat dG)
def zym (f:zFa) (c:zFb) (s:DShip) (r:List Int) (k:Nat):List (List DWindow):=(List.range k).map fun i=>zwO f c (r.getD i 0) s
theorem zyn {β:Type} {g:Nat→β} {k:Nat}:(List.range (k+1)).map g=(List.range k).map g ++ [g k]:=by rw [List.range_succ,List.map_append];rfl
theorem rmap_len {β:Type} {g:Nat→β} {k:Nat}:((List.range k).map g).length=k:=by rw [List.length_map,List.length_range]
set_option maxRecDepth 20000 in
theorem zyo (f:DForecast) (c:DChart) (s:DShip) (a:Int) (r:Sl Int) (h:Hp) (hf:Enc.ok h f) (hc:Enc.ok h c) (hs:Enc.ok h s) (ha:I64 a) (hr:r.Ok h) (hz:r.l.length≤1048576):Ct jV 112 [f.v,c.v,s.v,.int .i64 a,r.val] h fun v h'=>∃ (w:Sl Bool) (m:Sl Int) (u:Sl (Sl DWindow)),v=.tuple #[.agg #[w.val,m.val,u.val],.bool (voOk (Con.con f) (Con.con c) s a r.l)]∧w.Ok h'∧m.Ok h'∧u.Ok h'∧(voOk (Con.con f) (Con.con c) s a r.l=true→w.l=zyl (Con.con c) ((zwV (Con.con c) a r.l).getD []) r.l.length∧m.l=minL (Con.con c) s r.l r.l.length∧u.l.map (·.l)=zym (Con.con f) (Con.con c) s r.l r.l.length):=by
 have hl:=hr.max
 have hsl:(Con.con c).segments=c.segments.l:=zvJ c
 have hpl:(Con.con c).points=c.points.l:=zwZ c
 refine zdn (fun A W=>by simp) Tryz.func112 rfl rfl (by simp) fun W0=>?_
 repeat' first|refine Wa ?_|refine zhF (fun _=>zu0 f _ hf) ?_|refine zhF (fun _=>zvq s _ hs) ?_|refine zhF (fun _=>zxk c a r _ hc ha hr hz) ?_|(simp only [go_sem,jq,jj,jy,jv,jk,jx];try rfl)|refine Wb ?_|fail
 refine zc9 rfl (fun hx=>?_) (fun hx=>?_)
 ·have hno:voOk (Con.con f) (Con.con c) s a r.l=false:=by
   rw [voOk]
   simp only [jQ,Bool.not_eq_true',beq_iff_eq] at hx
   rw [Bool.and_eq_false_iff,Bool.and_eq_false_iff,Bool.and_eq_false_iff,decide_eq_false_iff_not]
   rcases hx with ((hx|hx)|hx)|hx
   ·exact .inl (.inl (.inl hx))
   ·exact .inl (.inl (.inr hx))
   ·exact .inl (.inr hx)
   ·exact .inr (by omega)
  rw [hno]
  refine Wk ?_
  exact ⟨⟨none,0,[]⟩,⟨none,0,[]⟩,⟨none,0,[]⟩,rfl,zmo,zmo,zmo,fun e=>by cases e⟩
 simp only [jp,Bool.not_eq_false',beq_eq_false_iff_ne,ne_eq] at hx
 obtain ⟨⟨⟨hF,hS⟩,hR⟩,h0⟩:=hx
 have hyes:voOk (Con.con f) (Con.con c) s a r.l=true:=by rw [voOk,hF,hS,hR,decide_eq_true (by omega)];rfl
 rw [hyes]
 obtain ⟨hC,hin,pl,hptl,hpk,hplen,hpx⟩:=zxi hR
 refine zc5 ?_
 refine Evs ?_
 (first|refine zie rfl ?_|refine zc4 rfl ?_|(refine zc3 ?_;first|refine zie rfl ?_|refine zc4 rfl ?_));simp only [go_sem,jq,jj,jy,jv,jk,jx]
 (first|refine zie rfl ?_|refine zc4 rfl ?_|(refine zc3 ?_;first|refine zie rfl ?_|refine zc4 rfl ?_));simp only [go_sem,jq,jj,jy,jv,jk,jx]
 refine Wk ?_
 refine zkj (zxl c a r _ hc ha hr hz) rfl ?_
 rintro v h1 le1 ⟨p,rfl,e1,pok⟩
 rw [hptl] at e1
 have e1:p.l=pl:=e1
 have hplen1:p.l.length=r.l.length+1:=by rw [e1];exact hplen
 have hpcap:=pok.1
 simp only [go_sem,jq,jj,jy,jv,jk,jx,true_or,true_and,Int.toNat_zero,Nat.zero_mul,zmA,zmB,ite_self,Nat.sub_zero]
 refine ⟨by omega,?_⟩
 rw [zmC (by omega)]
 refine zoj 4 [] [.v (.slice none 0 0),.v (.slice none 0 0)] 4 1 rfl ?_
 refine zoj 4 [.s 5] [.v (.slice none 0 0)] 3 1 rfl ?_
 refine zoj 4 [.s 5,.s 6] [] 147 1 rfl ?_
 have ptok:(p.to r.l.length).Ok h1:=Sl.to_ok pok _
 have ptl:(p.to r.l.length).l.length=r.l.length:=Sl.to_len (by omega)
 refine Evs ?_
 refine Wk ?_
 refine zl0 (ι:=Nat × List (Sl DWindow) × Hp) (fun i=>⟨[(4,true,.c (.v r.val)),(5,true,.c (.p 0 0)),(6,true,.c (.p 1 0)),(7,true,.c (.p 2 0)),(10,true,.c (.p 3 0)),(11,true,.c (.v (.bool false))),(12,true,.c (.p 4 0)),(43,true,.c (.v (p.to r.l.length).val)),(44,true,.c (.v (.int .i64 r.l.length))),(45,true,.c (.v (.int .i64 i.1)))],[(0,.box 28 [.v (.int .i64 f.tide.mean),.v f.tide.parts.val,.v f.surges.val]),(1,.box 32 [.v c.points.val,.v c.segments.val]),(2,.box 59 [.v (.string s.name),.v (.int .i64 s.length),.v (.int .i64 s.draught),.v (.int .i64 s.line),.v (.int .i64 s.tugs),.v (.bool s.slow)]),(3,.box 141 [.v (.slice none 0 0),.v (.slice none 0 0),.v (.slice none 0 0)]),(4,.box 141 [.s 5,.s 6,.s 7]),(5,.row 4 1 i.1 ((zyl (Con.con c) p.l i.1).flatMap Enc.enc)),(6,.row 3 1 i.1 ((minL (Con.con c) s r.l i.1).flatMap Enc.enc)),(7,.row 147 1 i.1 (i.2.1.flatMap Enc.enc))],i.2.2,8⟩) (fun i=>i.1≤r.l.length∧i.2.1.map (·.l)=zym (Con.con f) (Con.con c) s r.l i.1∧(∀ q ∈ i.2.1,Enc.ok i.2.2 q)∧h1.le i.2.2) (fun i=>r.l.length - i.1) (0,[],h1) ⟨Nat.zero_le _,rfl,fun _ h=>(by cases h),Hp.le_refl _⟩ [0,1,2,3,4,5,6,7] ?_ ?_
 ·refine Evs ?_
  exact Gk
 rintro ⟨k,us,hk⟩ ⟨hkn,hus,huok,hle⟩
 simp only at hkn hus huok hle
 have hln:us.length=k:=by have:=congrArg List.length hus;rwa [List.length_map,zym,rmap_len] at this
 have hle0:h.le hk:=Hp.le_trans le1 hle
 have fk:Enc.ok hk f:=Enc.mono hle0 hf
 have ck:Enc.ok hk c:=Enc.mono hle0 hc
 have sk:Enc.ok hk s:=Enc.mono hle0 hs
 have rk:=hr.mono hle0
 replace ptok:=ptok.mono hle
 refine Wk ?_
 refine zc9 rfl (fun hd=>?_) (fun hd=>?_)
 ·have hlt:=zjH hd
  have hlti:(k:Int) < r.l.length:=by omega
  have hlt2:k < (p.to r.l.length).l.length:=by omega
  have hlt2i:(k:Int) < (p.to r.l.length).l.length:=by omega
  have hlt3:k < p.l.length:=by omega
  have htog:(p.to r.l.length).l[k]=p.l[k]:=Sl.to_get _ _
  have hpp:=hpx p.l[k] (by rw [← e1];exact List.getElem_mem hlt3)
  rw [hpl] at hpp
  obtain ⟨hpp0,hpp1⟩:=hpp
  have hpi:p.l[k].toNat < c.points.l.length:=by omega
  have hseg:=zxj hpk (Nat.le_refl _) k hlt hlt
  rw [hsl] at hseg
  obtain ⟨hx0,hx1⟩:=hseg
  have hsi:r.l[k].toNat < c.segments.l.length:=by omega
  have hw1:(c.points.l[p.l[k].toNat]).wait=((Con.con c).points.getD (p.l.getD k 0).toNat dP).wait:=by rw [hpl,iget hlt3,pget hpi]
  have hm1:zvG s c.segments.l[r.l[k].toNat]=zvG s ((Con.con c).segments.getD (r.l.getD k 0).toNat dG):=by rw [hsl,iget hlt,gget hsi]
  repeat' first|refine Wa ?_|(simp only [go_sem,jq,jj,jy,jv,jk,jx,zkv rk hlt,rk.some hlt,hlt,hlti,zkv ptok hlt2,ptok.some hlt2,hlt2,hlt2i,htog,zkS ck.1 hpi,ck.1.some hpi,zlR ck.1 hpi,hpi,hpp0,hpp1,zkU ck.2 hsi,ck.2.some hsi,zlS ck.2 hsi,hsi,hx0,hx1,jW,jY,implies_true,true_and,and_true,and_self];try rfl)|refine Wb ?_|fail
  refine znv rfl ?_
  refine U_t [0,2,4,1,3,5,6,7] rfl ?_
  simp only [go_sem,jq,jj,jy,jv,jk,jx,zkv rk hlt,rk.some hlt,hlt,hlti,zkv ptok hlt2,ptok.some hlt2,hlt2,hlt2i,htog,zkS ck.1 hpi,ck.1.some hpi,zlR ck.1 hpi,hpi,hpp0,hpp1,zkU ck.2 hsi,ck.2.some hsi,zlS ck.2 hsi,hsi,hx0,hx1,jW,jY,implies_true,true_and,and_true,and_self]
  refine U_1 8 0 [1,0] rfl rfl ?_
  simp only [go_sem,jq,jj,jy,jv,jk,jx,zkv rk hlt,rk.some hlt,hlt,hlti,zkv ptok hlt2,ptok.some hlt2,hlt2,hlt2i,htog,zkS ck.1 hpi,ck.1.some hpi,zlR ck.1 hpi,hpi,hpp0,hpp1,zkU ck.2 hsi,ck.2.some hsi,zlS ck.2 hsi,hsi,hx0,hx1,jW,jY,implies_true,true_and,and_true,and_self]
  refine U_1 9 0 [] rfl rfl ?_
  simp only [go_sem,jq,jj,jy,jv,jk,jx,zkv rk hlt,rk.some hlt,hlt,hlti,zkv ptok hlt2,ptok.some hlt2,hlt2,hlt2i,htog,zkS ck.1 hpi,ck.1.some hpi,zlR ck.1 hpi,hpi,hpp0,hpp1,zkU ck.2 hsi,ck.2.some hsi,zlS ck.2 hsi,hsi,hx0,hx1,jW,jY,implies_true,true_and,and_true,and_self]
  refine ⟨by simp only [maxLen];omega,by omega,?_⟩
  refine U_t [10] rfl ?_
  simp only [go_sem,jq,jj,jy,jv,jk,jx,zkv rk hlt,rk.some hlt,hlt,hlti,zkv ptok hlt2,ptok.some hlt2,hlt2,hlt2i,htog,zkS ck.1 hpi,ck.1.some hpi,zlR ck.1 hpi,hpi,hpp0,hpp1,zkU ck.2 hsi,ck.2.some hsi,zlS ck.2 hsi,hsi,hx0,hx1,jW,jY,implies_true,true_and,and_true,and_self]
  refine U_1 11 0 [] rfl rfl ?_
  simp only [go_sem,jq,jj,jy,jv,jk,jx,zkv rk hlt,rk.some hlt,hlt,hlti,zkv ptok hlt2,ptok.some hlt2,hlt2,hlt2i,htog,zkS ck.1 hpi,ck.1.some hpi,zlR ck.1 hpi,hpi,hpp0,hpp1,zkU ck.2 hsi,ck.2.some hsi,zlS ck.2 hsi,hsi,hx0,hx1,jW,jY,implies_true,true_and,and_true,and_self]
  refine U_d ?_
  repeat' first|refine Wa ?_|(simp only [go_sem,jq,jj,jy,jv,jk,jx,zkv rk hlt,rk.some hlt,hlt,hlti,zkv ptok hlt2,ptok.some hlt2,hlt2,hlt2i,htog,zkS ck.1 hpi,ck.1.some hpi,zlR ck.1 hpi,hpi,hpp0,hpp1,zkU ck.2 hsi,ck.2.some hsi,zlS ck.2 hsi,hsi,hx0,hx1,jW,jY,implies_true,true_and,and_true,and_self];try rfl)|refine Wb ?_|fail
  refine znv rfl ?_
  refine U_t [0,2,3,5,6,1,4,7,8,9,10] rfl ?_
  simp only [go_sem,jq,jj,jy,jv,jk,jx,zkv rk hlt,rk.some hlt,hlt,hlti,zkv ptok hlt2,ptok.some hlt2,hlt2,hlt2i,htog,zkS ck.1 hpi,ck.1.some hpi,zlR ck.1 hpi,hpi,hpp0,hpp1,zkU ck.2 hsi,ck.2.some hsi,zlS ck.2 hsi,hsi,hx0,hx1,jW,jY,implies_true,true_and,and_true,and_self]
  refine U_1 11 0 [1,0] rfl rfl ?_
  simp only [go_sem,jq,jj,jy,jv,jk,jx,zkv rk hlt,rk.some hlt,hlt,hlti,zkv ptok hlt2,ptok.some hlt2,hlt2,hlt2i,htog,zkS ck.1 hpi,ck.1.some hpi,zlR ck.1 hpi,hpi,hpp0,hpp1,zkU ck.2 hsi,ck.2.some hsi,zlS ck.2 hsi,hsi,hx0,hx1,jW,jY,implies_true,true_and,and_true,and_self]
  refine zhF (fun _=>zvM s c.segments.l[r.l[k].toNat] _) ?_
  simp only [go_sem,jq,jj,jy,jv,jk,jx,zkv rk hlt,rk.some hlt,hlt,hlti,zkv ptok hlt2,ptok.some hlt2,hlt2,hlt2i,htog,zkS ck.1 hpi,ck.1.some hpi,zlR ck.1 hpi,hpi,hpp0,hpp1,zkU ck.2 hsi,ck.2.some hsi,zlS ck.2 hsi,hsi,hx0,hx1,jW,jY,implies_true,true_and,and_true,and_self]
  refine U_1 12 0 [1,0] rfl rfl ?_
  simp only [go_sem,jq,jj,jy,jv,jk,jx,zkv rk hlt,rk.some hlt,hlt,hlti,zkv ptok hlt2,ptok.some hlt2,hlt2,hlt2i,htog,zkS ck.1 hpi,ck.1.some hpi,zlR ck.1 hpi,hpi,hpp0,hpp1,zkU ck.2 hsi,ck.2.some hsi,zlS ck.2 hsi,hsi,hx0,hx1,jW,jY,implies_true,true_and,and_true,and_self]
  refine U_1 13 0 [] rfl rfl ?_
  simp only [go_sem,jq,jj,jy,jv,jk,jx,zkv rk hlt,rk.some hlt,hlt,hlti,zkv ptok hlt2,ptok.some hlt2,hlt2,hlt2i,htog,zkS ck.1 hpi,ck.1.some hpi,zlR ck.1 hpi,hpi,hpp0,hpp1,zkU ck.2 hsi,ck.2.some hsi,zlS ck.2 hsi,hsi,hx0,hx1,jW,jY,implies_true,true_and,and_true,and_self]
  refine ⟨by simp only [maxLen];omega,by omega,?_⟩
  refine U_t [14] rfl ?_
  simp only [go_sem,jq,jj,jy,jv,jk,jx,zkv rk hlt,rk.some hlt,hlt,hlti,zkv ptok hlt2,ptok.some hlt2,hlt2,hlt2i,htog,zkS ck.1 hpi,ck.1.some hpi,zlR ck.1 hpi,hpi,hpp0,hpp1,zkU ck.2 hsi,ck.2.some hsi,zlS ck.2 hsi,hsi,hx0,hx1,jW,jY,implies_true,true_and,and_true,and_self]
  refine U_1 15 0 [] rfl rfl ?_
  simp only [go_sem,jq,jj,jy,jv,jk,jx,zkv rk hlt,rk.some hlt,hlt,hlti,zkv ptok hlt2,ptok.some hlt2,hlt2,hlt2i,htog,zkS ck.1 hpi,ck.1.some hpi,zlR ck.1 hpi,hpi,hpp0,hpp1,zkU ck.2 hsi,ck.2.some hsi,zlS ck.2 hsi,hsi,hx0,hx1,jW,jY,implies_true,true_and,and_true,and_self]
  refine U_d ?_
  repeat' first|refine Wa ?_|(simp only [go_sem,jq,jj,jy,jv,jk,jx,zkv rk hlt,rk.some hlt,hlt,hlti,zkv ptok hlt2,ptok.some hlt2,hlt2,hlt2i,htog,zkS ck.1 hpi,ck.1.some hpi,zlR ck.1 hpi,hpi,hpp0,hpp1,zkU ck.2 hsi,ck.2.some hsi,zlS ck.2 hsi,hsi,hx0,hx1,jW,jY,implies_true,true_and,and_true,and_self];try rfl)|refine Wb ?_|fail
  refine znv rfl ?_
  refine U_t [0,2,3,4,5,8,1,6,7] rfl ?_
  simp only [go_sem,jq,jj,jy,jv,jk,jx,zkv rk hlt,rk.some hlt,hlt,hlti,zkv ptok hlt2,ptok.some hlt2,hlt2,hlt2i,htog,zkS ck.1 hpi,ck.1.some hpi,zlR ck.1 hpi,hpi,hpp0,hpp1,zkU ck.2 hsi,ck.2.some hsi,zlS ck.2 hsi,hsi,hx0,hx1,jW,jY,implies_true,true_and,and_true,and_self]
  refine U_1 9 0 [1,0] rfl rfl ?_
  simp only [go_sem,jq,jj,jy,jv,jk,jx,zkv rk hlt,rk.some hlt,hlt,hlti,zkv ptok hlt2,ptok.some hlt2,hlt2,hlt2i,htog,zkS ck.1 hpi,ck.1.some hpi,zlR ck.1 hpi,hpi,hpp0,hpp1,zkU ck.2 hsi,ck.2.some hsi,zlS ck.2 hsi,hsi,hx0,hx1,jW,jY,implies_true,true_and,and_true,and_self]
  refine zkj (zwR f c r.l[k] s _ fk ck sk) rfl ?_
  rintro v h3 le3 ⟨q,rfl,eq,okq,mq⟩
  have rk3:=rk.mono le3
  simp only [go_sem,jq,jj,jy,jv,jk,jx,zkv rk3 hlt,rk3.some hlt,hlt,hlti,zkv ptok hlt2,ptok.some hlt2,hlt2,hlt2i,htog,zkS ck.1 hpi,ck.1.some hpi,zlR ck.1 hpi,hpi,hpp0,hpp1,zkU ck.2 hsi,ck.2.some hsi,zlS ck.2 hsi,hsi,hx0,hx1,jW,jY,implies_true,true_and,and_true,and_self]
  refine U_1 10 0 [1,0] rfl rfl ?_
  refine Evs ?_
  refine U_1 11 0 [] rfl rfl ?_
  refine Evs ?_
  refine ⟨by simp only [maxLen];omega,by omega,?_⟩
  refine U_t [12] rfl ?_
  refine Evs ?_
  refine U_1 13 0 [] rfl rfl ?_
  refine Evs ?_
  refine U_d ?_
  refine Wk ?_
  refine ⟨(k+1,us ++ [q],h3),[0,1,2,3,4,9,11,13],⟨hlt,?_,fun q' hq'=>?_,Hp.le_trans hle le3⟩,by simp only;omega,?_⟩
  ·rw [List.map_append,hus,zym,zym,zyn,iget hlt,← eq];rfl
  ·rcases List.mem_append.1 hq' with hq'|hq'
   ·exact Enc.mono le3 (huok q' hq')
   ·rw [List.mem_singleton.1 hq'];exact okq
  have hle3:=Hp.le_trans hle0 le3
  refine Evs ?_
  simp only [zyl,minL,zyn,List.flatMap_append,← hw1,← hm1]
  exact Gi (zjA hlt (by omega))
 ·have hge:=zjI hd
  obtain rfl:k=r.l.length:=by omega
  refine zc6 ?_
  refine Evs ?_
  refine znD 5 (zyl (Con.con c) p.l r.l.length) rfl rfl rmap_len.symm rfl fun w g1 ew Rw fw lw kw=>?_
  refine Evs ?_
  refine znD 6 (minL (Con.con c) s r.l r.l.length) rfl rfl rmap_len.symm rfl fun m g2 em Rm fm lm km=>?_
  refine Evs ?_
  refine znD 7 us rfl rfl hln.symm rfl fun u g3 eu Ru fu lu ku=>?_
  refine Evs ?_
  have lw:hk.le g1:=lw
  have lm:g1.le g2:=lm
  have lu:g2.le g3:=lu
  have okw:w.Ok g1:=Rw.ok (by decide) fun x hx=>trivial
  have okm:m.Ok g2:=Rm.ok (by decide) fun x hx=>by
   rw [em] at hx
   obtain ⟨i,hi,rfl⟩:=List.mem_map.1 hx
   exact zyk ck (r.l.getD i 0).toNat
  have oku:u.Ok g3:=Ru.ok (by decide) fun x hx=>Enc.mono (Hp.le_trans lw (Hp.le_trans lm lu)) (huok x (by rw [← eu];exact hx))
  refine Wk ?_
  refine ⟨w,m,u,rfl,okw.mono (Hp.le_trans lm lu),okm.mono lu,oku,?_,em,by rw [eu,hus]⟩
  rw [ew,hptl,e1];rfl
end Go.Proofs.YtdeflkhkfmjckaaGreat
