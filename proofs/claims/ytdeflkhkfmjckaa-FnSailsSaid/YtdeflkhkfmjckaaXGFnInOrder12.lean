/- What functions of the given program compute, as contracts. -/
import Derived.Test.YtdeflkhkfmjckaaSGFnInOrderx5
import Derived.Test.YtdeflkhkfmjckaaXGFnInOrder11
import Derived.Test.YtdeflkhkfmjckaaXGFnInOrder6
import Derived.Test.YtdeflkhkfmjckaaXGFnInOrder7
import Derived.Test.YtdeflkhkfmjckaaXGFnInOrder8
import Derived.Test.YtdeflkhkfmjckaaXGFnInOrder9
set_option linter.unusedVariables false
set_option linter.unusedSimpArgs false
set_option maxRecDepth 4000
open Nat renaming reduceAdd → jq, reduceMul → jj, reduceBEq → jy, reduceLeDiff → jv, reduceLT → jk, reduceEqDiff → jx
open Bool renaming or_eq_false_iff → jp, or_eq_true → jQ, and_eq_true → jJ
open Int renaming toNat_natCast → jW, natCast_nonneg → jY
open Go.Proofs.Try renaming prog → jV
namespace Go.Proofs.Ytdeflkhkfmjckaa
open Go Go.SL
set_option maxHeartbeats 1000000
theorem zBh {s:DShip} {g:DSegment} (h:1≤g.minutes∧g.minutes≤240):1≤zvG s g∧zvG s g≤480:=by
 unfold zvG
 split
 ·rw [zjz (by omega)];omega
 ·omega
theorem zBi {c:PChart} (h:zva c=true) {i:Nat} (hi:i < c.segments.length):1≤(c.segments.getD i dG).minutes∧(c.segments.getD i dG).minutes≤240:=by
 simp only [zva,jJ,decide_eq_true_eq] at h
 have:=h.2 i hi
 simp only [zu9,zu7,jJ,decide_eq_true_eq] at this
 exact ⟨this.1.2.2.2.2.2.2.2.1,this.1.2.2.2.2.2.2.2.2⟩
theorem zBj {c:PChart} (h:zva c=true):c.points.length≤8∧∀ i,i < c.segments.length→0≤(c.segments.getD i dG).a∧(c.segments.getD i dG).a < c.points.length∧0≤(c.segments.getD i dG).b∧(c.segments.getD i dG).b < c.points.length:=by
 simp only [zva,jJ,decide_eq_true_eq] at h
 refine ⟨h.1.1.1,fun i hi=>?_⟩
 have:=h.2 i hi
 simp only [zu9,zu7,jJ,decide_eq_true_eq] at this
 exact ⟨this.1.1,this.1.2.1,this.1.2.2.1,this.1.2.2.2.1⟩
theorem zBk {c:PChart} {f:List DShip} {p:DPassage} (h:zvI c f p=true):zva c=true∧0≤p.seg∧p.seg < c.segments.length∧0≤p.start∧p.start < p.fin∧p.fin≤2880:=by
 rw [zvI,jJ,jJ,zvH,jJ,decide_eq_true_eq,decide_eq_true_eq] at h
 obtain ⟨⟨h1,h2⟩,⟨h3,h4,h5,h6,h7,h8,h9⟩,h10⟩:=h
 have hm:=zBh (s:=f.getD p.ship.toNat dH) (zBi h1 (i:=p.seg.toNat) (by omega))
 rw [zjz (by omega)] at h10
 exact ⟨h1,h5,h6,h7,by omega,h9⟩
theorem zBl {c:PChart} (h:zva c=true) {p:DPassage} (h0:0≤p.seg) (h1:p.seg < c.segments.length):0≤(zvF c p).1∧(zvF c p).1 < 8∧0≤(zvF c p).2∧(zvF c p).2 < 8:=by
 obtain ⟨h2,h3⟩:=zBj h
 have:=h3 p.seg.toNat (by omega)
 unfold zvF
 split <;> (dsimp only;omega)
theorem zBm {c:PChart} {f:List DShip} {p q:DPassage} (h:zvI c f p=true) (h2:zvI c f q=true) (hpq:p.start < q.fin):zz1 (zxA c p q)=true:=by
 obtain ⟨a1,a2,a3,a4,a5,a6⟩:=zBk h
 obtain ⟨_,b2,b3,b4,b5,b6⟩:=zBk h2
 have e1:=zBl a1 a2 a3
 have e2:=zBl a1 b2 b3
 unfold zz1 zxA
 rw [decide_eq_true_eq]
 dsimp only
 omega
theorem zBn {w:PCrew} (h:zvn w=true):In w.rest 0 2880=true∧zvm w.moves=true:=by
 simp only [zvn,jJ] at h
 exact h.2
theorem zBo (w:DCrew):(Con.con w).moves=w.moves.l:=zkr
def pilL (c:PChart) (f:List DShip) (l:List (List DPassage)):List DDuty:=(l.filter fun x=>decide (0 < x.length)).map fun x=>(zxB c f x).1
def zBp (c:PChart) (f:List DShip) (l:List (List DPassage)):Prop:=∀ x ∈ l,0 < x.length→(zxB c f x).2=true
noncomputable def zBq (w:PCrew) (c:PChart) (f:List DShip) (l:List (List DPassage)):Int:=open Classical in
 if zvn w=true∧zBp c f l∧(pilL c f l).length≤12 then (zA6 w.rest w.moves (pilL c f l)).2.1 else -1
theorem zBr {c:PChart} {f:List DShip} {l:List DPassage} (hC:zxr c l=true) (hp:∀ i,i < l.length→pOk c f l i=true):∀ k,k < l.length→(l.getD 0 dQ).start < (l.getD k dQ).fin
 | 0,hk=>(zBk (hp 0 hk)).2.2.2.2.1
 | k+1,hk=>by
  have ih:=zBr hC hp k (by omega)
  have h1:=(zBk (hp (k+1) hk)).2.2.2.2.1
  have h2:=of_decide_eq_true (Bool.and_eq_true_iff.1 hC).2 (k+1) hk
  rw [chOk,jJ] at h2
  have h3:=h2.2
  rw [chTo,jQ,decide_eq_true_eq,jJ,decide_eq_true_eq,decide_eq_true_eq] at h3
  simp only [Nat.add_sub_cancel] at h3
  rcases h3 with h3|h3
  ·omega
  ·have:=h3.2;omega
theorem zBs {c:PChart} {f:List DShip} {l:List DPassage} (h:(zxB c f l).2=true):zz1 (zxB c f l).1=true:=by
 rw [zxB] at h ⊢
 split
 ·rename_i hq
  simp only [jJ,decide_eq_true_eq] at hq
  obtain ⟨⟨h0,hC⟩,hp⟩:=hq
  exact zBm (hp 0 h0) (hp (l.length - 1) (by omega)) (zBr hC hp _ (by omega))
 ·rename_i hq;rw [if_neg hq] at h;cases h
theorem zBt {c:PChart} {f:List DShip} {l:List (List DPassage)} (h:zBp c f l) (h12:(pilL c f l).length≤12):zz2 (pilL c f l)=true:=by
 rw [zz2,jJ,decide_eq_true_eq,List.all_eq_true]
 refine ⟨h12,fun x hx=>?_⟩
 obtain ⟨y,hy,rfl⟩:=List.mem_map.1 hx
 have:=List.mem_filter.1 hy
 exact zBs (h y this.1 (of_decide_eq_true this.2))
theorem zBu {c:PChart} {f:List DShip} {l:List (List DPassage)} {x:List DPassage} (h:0 < x.length):pilL c f (l ++ [x])=pilL c f l ++ [(zxB c f x).1]:=by
 rw [pilL,List.filter_append,List.map_append]
 simp [pilL,h]
theorem zBv {c:PChart} {f:List DShip} {l:List (List DPassage)} {x:List DPassage} (h:x.length=0):pilL c f (l ++ [x])=pilL c f l:=by
 rw [pilL,List.filter_append,List.map_append]
 simp [pilL,h]
theorem zBw {c:PChart} {f:List DShip} {l:List (List DPassage)}:(pilL c f l).length≤l.length:=by
 rw [pilL,List.length_map];exact List.length_filter_le _ _
theorem zBx {l:List (Sl DPassage)} {k:Nat} (hk:k < l.length):(l.take (k+1)).map (·.l)=(l.take k).map (·.l) ++ [l[k].l]:=by rw [List.take_succ_eq_append_getElem hk,List.map_append];rfl
theorem zBy {c:PChart} {f:List DShip} {l:List (List DPassage)} {x:List DPassage} (h:zBp c f l) (hx:0 < x.length→(zxB c f x).2=true):zBp c f (l ++ [x]):=fun y hy h0=>by
 rcases List.mem_append.1 hy with hy|hy
 ·exact h y hy h0
 ·rw [List.mem_singleton.1 hy] at h0 ⊢;exact hx h0
theorem zBz {c:PChart} {f:List DShip} {w:PCrew} {l:List (List DPassage)} {x:List DPassage} (hx:x ∈ l) (h0:0 < x.length) (h:(zxB c f x).2=false):zBq w c f l=-1:=by
 rw [zBq,if_neg]
 rintro ⟨-,hp,-⟩
 rw [hp x hx h0] at h;cases h
theorem zBA {c:DChart} {f:List DShip} {l:List (Sl DPassage)} {h:Hp} (hc:Enc.ok h c) (hl:∀ x ∈ l,x.Ok h):∀ d ∈ pilL (Con.con c) f (l.map (·.l)),Enc.ok h d:=fun d hd=>by
 obtain ⟨y,hy,rfl⟩:=List.mem_map.1 hd
 obtain ⟨x,hx,rfl⟩:=List.mem_map.1 (List.mem_filter.1 hy).1
 have:=zxI (f:=f) (h2:=h) hc (hl x hx)
 rwa [zxH] at this
theorem zBB (w:DCrew) (c:DChart) (f:Sl DShip) (a:Sl (Sl DPassage)) (h:Hp) (hw:Enc.ok h w) (hc:Enc.ok h c) (hf:f.Ok h) (ha:a.Ok h) (hz:a.l.length≤1048576):Ct jV 38 [w.v,c.v,f.val,a.val] h fun v h'=>v=.int .i64 (zBq (Con.con w) (Con.con c) f.l (a.l.map (·.l)))∧h'=h:=by
 have hl:=ha.max
 refine Ct.forget ?_
 refine zdn (fun A W=>by simp) Try.func38 rfl rfl (by simp) fun W0=>?_
 refine Wk ?_
 refine zl0 (ι:=Nat) (fun k=>⟨[(2,true,.c (.v f.val)),(4,true,.c (.p 0 0)),(5,true,.c (.p 1 0)),(8,true,.c (.v (.int .i64 0))),(9,true,.c (.s 2)),(18,true,.c (.v a.val)),(19,true,.c (.v (.int .i64 a.l.length))),(20,true,.c (.v (.int .i64 k)))],[(0,.box 38 [.v (.int .i64 w.tugs),.v (.int .i64 w.pilots),.v (.int .i64 w.rest),.v w.moves.val]),(1,.box 32 [.v c.points.val,.v c.segments.val]),(2,.row 87 4 (pilL (Con.con c) f.l ((a.l.take k).map (·.l))).length ((pilL (Con.con c) f.l ((a.l.take k).map (·.l))).flatMap Enc.enc))],h,3⟩) (fun k=>k≤a.l.length∧zBp (Con.con c) f.l ((a.l.take k).map (·.l))) (fun k=>a.l.length - k) 0 ⟨Nat.zero_le _,fun x hx=>by cases hx⟩ [0,1,2] ?_ ?_
 ·refine Evs ?_
  exact Gk
 intro k hk
 have hpl:=zBw (c:=Con.con c) (f:=f.l) (l:=(a.l.take k).map (·.l))
 rw [List.length_map,List.length_take] at hpl
 refine Wk ?_
 refine zc9 rfl (fun hd=>?_) (fun hd=>?_)
 ·have hlt:=zjH hd
  have hok:=ha.el hlt
  repeat' first|refine Wa ?_|(simp only [go_sem,jq,jj,jy,jv,jk,jx,zku ha hlt,ha.some hlt,hlt,jW];try rfl)|refine Wb ?_|fail
  refine zc9 rfl (fun hx=>?_) (fun hx=>?_)
  ·have hx:a.l[k].l.length=0:=by have:=eq_of_beq hx;omega
   refine Wk ?_
   refine ⟨k+1,[0,1,2],⟨hlt,by rw [zBx hlt];exact zBy hk.2 (fun h0=>by omega)⟩,by omega,?_⟩
   refine Evs ?_
   rw [zBx hlt,zBv hx]
   exact Gi (zjA hlt (by omega))
  have hx:0 < a.l[k].l.length:=by have:=ne_of_beq_false hx;omega
  have hmem:a.l[k].l ∈ a.l.map (·.l):=List.mem_map_of_mem (List.getElem_mem hlt)
  repeat' first|refine Wa ?_|refine zhF (fun _=>zxG c f a.l[k] _ hc hf hok) ?_|(simp only [go_sem,jq,jj,jy,jv,jk,jx];try rfl)|refine Wb ?_|fail
  refine zc9 rfl (fun hy=>?_) (fun hy=>?_)
  ·rw [Bool.not_eq_true'] at hy
   rw [zBz hmem hx hy]
   exact Wk0
  rw [Bool.not_eq_false'] at hy
  refine Wk ?_
  refine ⟨by simp only [maxLen];omega,by omega,?_⟩
  refine Wk ?_
  refine ⟨k+1,[0,1,5],⟨hlt,by rw [zBx hlt];exact zBy hk.2 (fun _=>hy)⟩,by omega,?_⟩
  refine Evs ?_
  rw [zBx hlt,zBu hx,List.flatMap_append,List.length_append]
  exact Gi (zjA hlt (by omega))
 ·have hge:=zjI hd
  have hke:k=a.l.length:=by omega
  have hkp:=hk.2
  rw [hke,List.take_length] at hkp
  have e0:(a.l.take k).map (·.l)=a.l.map (·.l):=by rw [hke,List.take_length]
  rw [e0]
  refine zc6 ?_
  refine Evs ?_
  repeat' first|refine Wa ?_|refine zhF (fun _=>zvx w _ hw) ?_|(simp only [go_sem,jq,jj,jy,jv,jk,jx];try rfl)|refine Wb ?_|fail
  refine zc9 rfl (fun hq=>?_) (fun hq=>?_)
  ·refine Wk ?_
   rw [zBq,if_neg]
   rintro ⟨h1,-,h2⟩
   rw [h1] at hq
   simp only [Bool.not_true,Bool.false_or] at hq
   have hq:=of_decide_eq_true hq
   omega
  rw [jp,Bool.not_eq_false'] at hq
  obtain ⟨hC,h12⟩:=hq
  have h12:=of_decide_eq_false h12
  refine zlE 2 (pilL (Con.con c) f.l (a.l.map (·.l))) rfl rfl rfl rfl (by decide) (zBA hc ha.2.2.2.1) h (Hp.le_refl _) (Mines.flat (fun _=>rfl) (fun _=>trivial)) fun s h' e1 e2 e3 e4=>?_
  have hw1:Enc.ok h' w:=Enc.mono e3 hw
  refine Wk ?_
  refine zkj (zBg w.rest w.moves s _ hw1.2.2.2 e2) rfl ?_
  rintro v h2 le2 ⟨s2,rfl,e5,ok2,m2⟩
  rw [e1]
  refine Wk ?_
  rw [zBq,if_pos ⟨hC,hkp,by omega⟩,zBo];rfl
def zBC (c:PChart) (f:List DShip) (l:List DPassage):Prop:=0 < l.length∧zxr c l=true∧∀ i,i < l.length→pOk c f l i=true
theorem zBD {l:List Int} {x:Int} {i:Nat} (hi:i < l.length):(l ++ [x]).getD i 0=l.getD i 0:=by rw [List.getD_eq_getElem?_getD,List.getElem?_append_left hi,← List.getD_eq_getElem?_getD]
theorem zBE {l:List Int} {x:Int} {k:Nat} (h:l.length=k):(l ++ [x]).getD k 0=x:=by subst h;simp only [List.getD_eq_getElem?_getD,List.getElem?_concat_length,Option.getD_some]
theorem zBF {w:List Bool} {m:List Int} {u:List (List DWindow)} {st:Int}:∀ {k:Nat} {l:List Int},slK w m u st k=some l→∀ i,i < k→IntKind.i64.wrap (l.getD i 0+m.getD i 0)≤l.getD (i+1) 0
 | 0,_,_,i,hi=>absurd hi (Nat.not_lt_zero i)
 | k+1,l,h,i,hi=>by
  rw [slK] at h
  obtain ⟨p,hp,h⟩:=Option.bind_eq_some_iff.1 h
  have hl:=zyw hp
  unfold zyr at h
  dsimp only at h
  split at h
  ·cases h
  ·rename_i hc
   rw [not_or] at hc
   have e:=Option.some.inj h
   rw [← e]
   rcases Nat.lt_or_ge i k with hik|hik
   ·rw [zBD (by omega),zBD (by omega)]
    exact zBF hp i hik
   ·obtain rfl:i=k:=by omega
    rw [zBD (by omega),zBE hl]
    exact zyp (by omega)
theorem zBG {g:List DSegment} {a:Int} {r:List Int}:∀ {k:Nat} {l:List Int},ptsK g a r k=some l→∀ i,i < k→l.getD (i+1) 0=zwS (g.getD (r.getD i 0).toNat dG) (l.getD i 0)∧0≤zwS (g.getD (r.getD i 0).toNat dG) (l.getD i 0)
 | 0,_,_,i,hi=>absurd hi (Nat.not_lt_zero i)
 | k+1,l,h,i,hi=>by
  obtain ⟨p,hp,hs⟩:=zw3 h
  have hl:=zw4 hp
  obtain ⟨_,h2,_,e⟩:=zw1 hs
  rw [zw7 hl] at h2 e
  rw [e]
  rcases Nat.lt_or_ge i k with hik|hik
  ·rw [zBD (by omega),zBD (by omega)]
   exact zBG hp i hik
  ·obtain rfl:i=k:=by omega
   rw [zBE hl,zBD (by omega)]
   exact ⟨rfl,h2⟩
theorem zBH {s:DSegment} {p:Int} (h:0≤zwS s p):(p=s.a∧zwS s p=s.b)∨(p ≠ s.a∧p=s.b∧zwS s p=s.a):=by
 unfold zwS at h ⊢
 split at h
 ·rename_i h1;exact .inl ⟨h1,by rw [if_pos h1]⟩
 ·rename_i h1
  split at h
  ·rename_i h2;exact .inr ⟨h1,h2,by rw [if_neg h1,if_pos h2]⟩
  ·exact absurd h (by decide)
theorem zBI {c:PChart} {ship:Int} {s:DShip} {pts r st:List Int} {k i:Nat} (hi:i < k):(pasL c ship s pts r st k).getD i dQ=zxL c ship s pts r st i:=by
 rw [pasL,List.getD_eq_getElem?_getD,List.getElem?_map,List.getElem?_range hi];rfl
theorem zBJ {x:DHarbour} {a:DCall} {r:List Int} (hok:zvB (Con.con x) a=true) (hcv:cvOk (Con.con x) a r=true) {st:Int} (hst:a.ready≤st∧st≤a.due) (h2:(zyJ (Con.con x) a r st).2=true):zBC (Con.con x.chart) x.fleet.l (zyJ (Con.con x) a r st).1.pas:=by
 obtain ⟨_,hC,⟨hsi,hsh,hso⟩,hs0,hs1,_,_,_,_,_,hr0,hr1,hr2,hr3⟩:=zyE hok
 have hFl:zvk x.fleet.l=true:=by
  rw [zvB,zvo,jJ,jJ,jJ,jJ,jJ,show (Con.con x).fleet=x.fleet.l from zu4 _] at hok
  exact hok.1.1.1.2
 have hv:voOk (Con.con x.forecast) (Con.con x.chart) (zyD (Con.con x) a) a.src r=true:=by
  rw [cvOk,jJ] at hcv;exact hcv.2
 have hR:zxf (Con.con x.chart) a.src r=true:=by
  rw [zyF hok,jJ] at hv;exact hv.1
 have hlen0:0 < r.length:=by
  rw [zyF hok,jJ,decide_eq_true_eq] at hv;exact hv.2
 obtain ⟨_,hin,pl,hptl,hpk,hplen,hpx⟩:=zxi hR
 have hrl:r.length≤8:=by have:=zxZ hC (zw5 hpk) hpx;omega
 have hrg:∀ i,i < r.length→0≤r.getD i 0∧r.getD i 0 < (Con.con x.chart).segments.length:=fun i hi=>by
  rw [iget hi];exact zxj hpk (Nat.le_refl _) i hi hi
 have hmi:∀ i,i < (minL (Con.con x.chart) (zyD (Con.con x) a) r r.length).length→1≤(minL (Con.con x.chart) (zyD (Con.con x) a) r r.length).getD i 0∧(minL (Con.con x.chart) (zyD (Con.con x) a) r r.length).getD i 0≤480:=fun i hi=>by
  rw [minL,rmap_len] at hi
  rw [zzr hi]
  exact zzj (zzk hC (by have:=hrg i hi;omega))
 have hml:(minL (Con.con x.chart) (zyD (Con.con x) a) r r.length).length=r.length:=by rw [minL,rmap_len]
 unfold zyJ at h2 ⊢
 rw [show (Con.con x).forecast=Con.con x.forecast from rfl,show (Con.con x).chart=Con.con x.chart from rfl] at h2 ⊢
 cases hs:zyB (Con.con x.forecast) (Con.con x.chart) (zyD (Con.con x) a) a.src r st with
 | none=>rw [hs] at h2;cases h2
 | some l =>
  rw [hs] at h2
  dsimp only at h2 ⊢
  have h3:=hs
  rw [zyB,if_pos hv,zys] at h3
  split at h3
  ·rw [show (zym (Con.con x.forecast) (Con.con x.chart) (zyD (Con.con x) a) r r.length).length=r.length by rw [zym,rmap_len]] at h3
   obtain ⟨h4,h5,h6⟩:=zzo (by omega) hmi (by omega) h3
   have hpo:arOk (Con.con x.chart) (zyD (Con.con x) a) r l=true:=by
    rw [arOk,jJ,jJ,jJ,Bool.not_eq_true',decide_eq_false_iff_not,decide_eq_true_eq,decide_eq_true_eq,hsh]
    refine ⟨⟨⟨?_,hso⟩,hlen0⟩,by omega⟩
    rw [zxn,if_pos ⟨hC,fun i hi=>by
     rw [rmOk,decide_eq_true_eq];exact hrg i hi⟩]
    have:=zzs hC (fun i hi=>zxj hpk (Nat.le_refl _) i hi hi) hrl (k:=r.length) (Nat.le_refl _)
    rw [List.take_length] at this
    omega
   have hA:zxJ (Con.con x.chart) (zyD (Con.con x) a) r l=IntKind.i64.wrap (l.getD (r.length - 1) 0+zvG (zyD (Con.con x) a) ((Con.con x.chart).segments.getD (r.getD (r.length - 1) 0).toNat dG)):=by
    have h7:=h5 (r.length - 1) (Nat.le_refl _)
    rw [zxJ,if_pos hpo,if_pos (by rw [In,jJ,decide_eq_true_eq,decide_eq_true_eq];exact h7)]
   have hle:zxJ (Con.con x.chart) (zyD (Con.con x) a) r l≤2880:=of_decide_eq_true h2
   have hstep:∀ i,i+1 < r.length→IntKind.i64.wrap (l.getD i 0+zvG (zyD (Con.con x) a) ((Con.con x.chart).segments.getD (r.getD i 0).toNat dG))≤l.getD (i+1) 0:=fun i hi=>by
    have:=zBF h3 i (by omega)
    rwa [zzr (by omega)] at this
   have hfin:∀ i,i < r.length→IntKind.i64.wrap (l.getD i 0+zvG (zyD (Con.con x) a) ((Con.con x.chart).segments.getD (r.getD i 0).toNat dG))≤2880:=fun i hi=>by
    rcases Nat.lt_or_ge (i+1) r.length with h8|h8
    ·have:=hstep i h8
     have:=h5 (i+1) (by omega)
     omega
    ·obtain rfl:i=r.length - 1:=by omega
     rw [hA] at hle;exact hle
   show zBC _ _ (zxN (Con.con x.chart) a.ship (zyD (Con.con x) a) a.src r l)
   have hP:zxN (Con.con x.chart) a.ship (zyD (Con.con x) a) a.src r l=pasL (Con.con x.chart) a.ship (zyD (Con.con x) a) pl r l r.length:=by
    rw [zxN,if_pos,hptl]
    ·rfl
    ·refine ⟨?_,fun i hi=>?_⟩
     ·rw [zxM,jJ,jJ,decide_eq_true_eq,hsh]
      exact ⟨⟨hR,hso⟩,by omega⟩
     ·rw [In,jJ,decide_eq_true_eq,decide_eq_true_eq];exact h5 i (by omega)
   rw [hP]
   refine ⟨by rw [zxQ];exact hlen0,?_,fun i hi=>?_⟩
   ·rw [zxr,jJ,decide_eq_true_eq]
    refine ⟨hC,fun i hi=>?_⟩
    rw [zxQ] at hi
    rw [chOk,chIn,chTo,zBI hi,zBI hlen0,zBI (show i - 1 < r.length by omega)]
    simp only [jJ,jQ,decide_eq_true_eq]
    refine ⟨⟨rfl,hrg i hi⟩,?_⟩
    rcases Nat.eq_zero_or_pos i with h0|h0
    ·exact .inl h0
    ·refine .inr ⟨?_,?_⟩
     ·have e1:=zBG hpk i hi
      have e2:=zBG hpk (i - 1) (by omega)
      rw [show i - 1+1=i by omega] at e2
      have f1:=zBH e1.2
      have f2:=zBH e2.2
      show (if (pl.getD i 0 == ((Con.con x.chart).segments.getD (r.getD i 0).toNat dG).a)=true then _ else _:Int × Int).1=(if (pl.getD (i - 1) 0 == ((Con.con x.chart).segments.getD (r.getD (i - 1) 0).toNat dG).a)=true then _ else _:Int × Int).2
      have g1:(zvF (Con.con x.chart) (zxL (Con.con x.chart) a.ship (zyD (Con.con x) a) pl r l i)).1=pl.getD i 0:=by
       unfold zvF zxL
       dsimp only
       rcases f1 with f1|f1
       ·rw [if_pos (by rw [beq_iff_eq];exact f1.1)];exact f1.1.symm
       ·rw [if_neg (by rw [beq_iff_eq];exact f1.1)];exact f1.2.1.symm
      have g2:(zvF (Con.con x.chart) (zxL (Con.con x.chart) a.ship (zyD (Con.con x) a) pl r l (i - 1))).2=pl.getD i 0:=by
       unfold zvF zxL
       dsimp only
       rcases f2 with f2|f2
       ·rw [if_pos (by rw [beq_iff_eq];exact f2.1)];rw [e2.1,f2.2]
       ·rw [if_neg (by rw [beq_iff_eq];exact f2.1)];rw [e2.1,f2.2.2]
      exact g1.trans g2.symm
     ·have:=hstep (i - 1) (by omega)
      rw [show i - 1+1=i by omega] at this
      exact this
   ·rw [zxQ] at hi
    rw [pOk,zBI hi,zvI,hC,hFl,Bool.true_and,Bool.true_and,zvH,jJ,decide_eq_true_eq,decide_eq_true_eq]
    refine ⟨⟨hs0,hs1,(hrg i hi).1,(hrg i hi).2,(h5 i (by omega)).1,(h5 i (by omega)).2,hfin i hi⟩,?_⟩
    show IntKind.i64.wrap (_+zvG (zyD (Con.con x) a) _)=IntKind.i64.wrap (_+zvG (x.fleet.l.getD a.ship.toNat dH) _)
    rw [hsh,hget hsi]
    rfl
  ·cases h3
theorem zBK {x:DHarbour} {a:DCall}:∀ y ∈ zy1 (Con.con x) a,zBC (Con.con x.chart) x.fleet.l y.pas:=by
 cases hok:zvB (Con.con x) a with
 | false=>rw [zy5 hok];intro y hy;cases hy
 | true =>
  rw [zy1,if_pos hok]
  obtain ⟨_,_,_,_,_,_,_,_,_,_,hr0,hr1,hr2,hr3⟩:=zyE hok
  cases hb:zyd (Con.con x).chart a.src a.dst with
  | none=>intro y hy;cases hy
  | some r =>
   dsimp only
   exact zzq hr0 hr3 (fun s h1 h2 h3=>zBJ hok (zy4 hok hb) ⟨h1,h2⟩ h3) (Int.le_refl _) (fun y hy=>by cases hy)
def zBL (n:Nat) (m:List Int):Prop:=m.length=n∧(∀ i (hi:i < m.length),0≤m[i]∧m[i] < m.length)∧∀ i (hi:i < m.length),m.getD m[i].toNat 0=(i:Int)
noncomputable instance (n:Nat) (m:List Int):Decidable (zBL n m):=Classical.propDecidable _
def flr (l:List POption):Int:=if zuC l < 0 then -1 else (l.getD (zuC l).toNat zeroO).cost
def Sel (n:Nat) (l:List Int):Prop:=∀ i,i < l.length→0≤l.getD i 0∧l.getD i 0 < n∧(0 < i→l.getD (i - 1) 0 < l.getD i 0)
instance (n:Nat) (l:List Int):Decidable (Sel n l):=inferInstanceAs (Decidable (∀ i,i < l.length→_))
theorem zBM (a:Sl DPassage) (h:Hp) (ha:a.Ok h) (hz:a.l.length≤1048576):Ct jV 93 [a.val] h fun v h'=>∃ s:Sl DPassage,v=s.val∧s.l=a.l∧s.Ok h'∧Mine h h' s:=by
 have hall:=ha.all (by decide)
 have hd:(h.ldL a.val 5).isSome=true:=by rw [show h.ldL a.val 5=_ from hall];rfl
 refine zdn (fun A W=>by simp) Try.func93 rfl rfl (by simp) fun W0=>?_
 repeat' first|refine Wa ?_|(simp only [go_sem,jq,jj,jy,jv,jk,jx,hall,show h.ldL a.val 5=some (a.l.flatMap Enc.enc) from hall,Option.isSome_some,Option.getD_some];try rfl)|refine Wb ?_|fail
 refine ⟨by simp only [maxLen];omega,by omega,?_⟩
 repeat' first|refine Wa ?_|(simp only [go_sem,jq,jj,jy,jv,jk,jx,hall,show h.ldL a.val 5=some (a.l.flatMap Enc.enc) from hall,Option.isSome_some,Option.getD_some];try rfl)|refine Wb ?_|fail
 refine ⟨fun u hu=>by obtain ⟨x,_,hx⟩:=List.mem_flatMap.1 hu;exact Enc.one x u hx,by simp only [maxLen];omega,by omega,?_⟩
 refine zlE 1 a.l rfl rfl (Nat.zero_add _) rfl (by decide) (fun x hx=>ha.2.2.2.1 x hx) h (Hp.le_refl _) (Mines.flat (fun _=>rfl) (fun _=>trivial)) fun s h' e1 e2 e3 e4=>?_
 refine Wk ?_
 exact ⟨s,rfl,e1,e2,e4⟩
theorem zBN {α:Type} [Enc α] [Foot α] {h:Hp} {s:Sl α} (H:Foot.own h s) {i:Nat} (hi:i < s.l.length):Foot.own h s.l[i] :=
 (H (fun e=>by rw [e] at hi;cases hi)).2 _ (List.getElem_mem hi)
def zBO (x:PHarbour) (a:DCall) (old:POption):List POption:=if zvB x a=true then (if zyW x a old=true then [old] else []) ++ (zy1 x a).filter (fun o=>!zut o old) else []
theorem zBP {q:DOption} {B:Nat} (hz:Sz.sz (Con.con q)≤B):q.pas.l.length≤B:=by
 have h2:Sz.sz (Con.con q)=Sz.sz (Con.con q.pas):=rfl
 rw [h2] at hz
 have:=zmv hz
 rwa [zmw] at this
theorem zBQ {x:PHarbour} {a:DCall} {o:POption} (h:zyW x a o=true):Sz.sz o≤8:=by
 rw [zyW,jJ] at h
 have e:(zyR x a (o.pas.map (·.seg)) o.start).1=o:=of_decide_eq_true h.2
 rw [← e,zyR]
 split
 ·exact zzg
 ·exact Nat.zero_le _
def zBR (h:Hp) (q:DOption) (v:Value) (h':Hp):Prop:=∃ z:DOption,v=z.v∧Con.con z=Con.con q∧Enc.ok h' z∧Mine h h' z
theorem zBS {h h':Hp} {q:DOption} {s:Sl DPassage} (hq:Enc.ok h q) (e:s.l=q.pas.l) (ok:s.Ok h') (m:Mine h h' s):Con.con (DOption.mk q.start q.arr q.cost s)=Con.con q∧Enc.ok h' (DOption.mk q.start q.arr q.cost s)∧Mine h h' (DOption.mk q.start q.arr q.cost s):=by
 refine ⟨?_,⟨hq.1,hq.2.1,hq.2.2.1,ok⟩,m⟩
 rw [zkA,zkA,show Con.con s=s.l from zxH s,show Con.con q.pas=q.pas.l from zxH q.pas,e]
theorem zBT (q:DOption) (h:Hp) (hq:Enc.ok h q) (hz:q.pas.l.length≤1048576):Ct jV 64 [q.v] h (zBR h q):=by
 refine zdn (fun A W=>by simp) Try.func64 rfl rfl (by simp) fun W0=>?_
 refine Wk ?_
 refine znv rfl ?_
 refine U_t [0,2,4,6,1,3,5,7] rfl ?_
 refine Evs ?_
 refine U_1 8 0 [5,3,1,4,2,0] rfl rfl ?_
 refine Evs ?_
 refine zkj (zBM q.pas _ hq.2.2.2 hz) rfl ?_
 rintro v h1 le1 ⟨s,rfl,es,oks,ms⟩
 refine Evs ?_
 refine U_1 9 0 [] rfl rfl ?_
 refine Evs ?_
 refine U_1 10 0 [] rfl rfl ?_
 refine Evs ?_
 refine U_d ?_
 refine Wk ?_
 obtain ⟨k1,k2,k3⟩:=zBS hq es oks ms
 exact ⟨_,rfl,k1,k2,k3⟩
set_option maxRecDepth 30000 in
theorem zBU (x:DHarbour) (a:DCall) (q:DOption) (h:Hp) (hx:Enc.ok h x) (ha:Enc.ok h a) (hq:Enc.ok h q) (hz:Sz.sz (Con.con q)≤1048576):Ct jV 23 [x.v,a.v,q.v] h fun v h'=>∃ s:Sl DOption,v=s.val∧Con.con s=zBO (Con.con x) (Con.con a) (Con.con q)∧s.Ok h'∧Mine h h' s:=by
 have hpz:q.pas.l.length≤1048576:=zBP hz
 refine zdn (fun A W=>by simp) Try.func23 rfl rfl (by simp) fun W0=>?_
 repeat' first|refine Wa ?_|refine zhF (fun _=>zvE x a _ hx ha) ?_|(simp only [go_sem,jq,jj,jy,jv,jk,jx];try rfl)|refine Wb ?_|fail
 refine zc9 rfl (fun hc=>?_) (fun hc=>?_)
 ·rw [Bool.not_eq_true'] at hc
  have hF:zBO (Con.con x) (Con.con a) (Con.con q)=[]:=by rw [zBO,if_neg (by rw [show zvB (Con.con x) (Con.con a)=false from hc];exact Bool.false_ne_true)]
  rw [hF]
  refine Wk ?_
  exact ⟨⟨none,0,[]⟩,rfl,rfl,zmo,Mine.nil⟩
 rw [Bool.not_eq_false'] at hc
 have hF:zBO (Con.con x) (Con.con a) (Con.con q)=(if zyW (Con.con x) (Con.con a) (Con.con q)=true then [Con.con q] else []) ++ (zy1 (Con.con x) (Con.con a)).filter (fun o=>!zut o (Con.con q)):=by rw [zBO,if_pos hc]
 rw [hF]
 repeat' first|refine Wa ?_|refine zhF (fun _=>zyY x a q _ hx ha hq hz) ?_|(simp only [go_sem,jq,jj,jy,jv,jk,jx];try rfl)|refine Wb ?_|fail
 refine zoc (ι:=List DOption × Hp) (fun t=>⟨[(3,true,.c (.p 0 0)),(4,true,.c (.p 1 0)),(5,true,.c (.p 2 0)),(6,true,.c (.v (.slice none 0 0))),(7,true,.c (.s 3))],[(0,.box 40 [.v (.int .i64 x.forecast.tide.mean),.v x.forecast.tide.parts.val,.v x.forecast.surges.val,.v x.chart.points.val,.v x.chart.segments.val,.v x.fleet.val,.v (.int .i64 x.regime.gap),.v (.bool x.regime.noMeet),.v (.int .i64 x.crew.tugs),.v (.int .i64 x.crew.pilots),.v (.int .i64 x.crew.rest),.v x.crew.moves.val]),(1,.box 42 [.v (.int .i64 a.ship),.v (.int .i64 a.src),.v (.int .i64 a.dst),.v (.int .i64 a.ready),.v (.int .i64 a.due)]),(2,.box 69 [.v (.int .i64 q.start),.v (.int .i64 q.arr),.v (.int .i64 q.cost),.v q.pas.val]),(3,.row 69 4 t.1.length (t.1.flatMap Enc.enc))],t.2,4⟩) (fun t=>t.1.length≤1∧t.1.map Con.con=(if zyW (Con.con x) (Con.con a) (Con.con q)=true then [Con.con q] else [])∧(∀ y ∈ t.1,Enc.ok t.2 y)∧Mines h t.2 t.1∧h.le t.2) ?_ ?_
 ·refine zc9 rfl (fun hi=>?_) (fun hi=>?_)
  ·rw [if_pos hi]
   refine Wk ?_
   refine zkj (zBT q _ hq hpz) rfl ?_
   rintro v h1 le1 ⟨z,rfl,ez,okz,mz⟩
   refine Wk ?_
   refine ⟨by simp only [maxLen];omega,([z],h1),[0,1,2,5],⟨Nat.le_refl _,by rw [List.map_cons,List.map_nil,ez],fun y hy=>by rw [List.mem_singleton.1 hy];exact okz,by have:=Mines.snoc (l:=[]) Mines.nil (fun y hy=>by cases hy) le1 (Hp.le_refl _) mz;simpa using this,le1⟩,?_⟩
   refine Evs ?_
   exact Gk
  ·rw [if_neg (by rw [hi];exact Bool.false_ne_true)]
   refine Wk ?_
   refine ⟨([],h),[0,1,2,3],⟨Nat.zero_le _,rfl,fun y hy=>(by cases hy),Mines.nil,Hp.le_refl _⟩,?_⟩
   refine Evs ?_
   exact Gk
 rintro ⟨ac,h1⟩ ⟨hac1,hacc,hacok,hacm,le1⟩
 simp only at hac1 hacc hacok hacm le1
 refine Wk ?_
 refine zkj (zzc x a _ (Enc.mono le1 hx) (Enc.mono le1 ha)) rfl ?_
 rintro v h2 le2 ⟨s,rfl,es,oks,ms⟩
 have es:s.l.map (Con.con (α:=DOption))=zy1 (Con.con x) (Con.con a):=es
 have hq2:Enc.ok h2 q:=Enc.mono (Hp.le_trans le1 le2) hq
 have hlm:s.l.length≤8:=by
  have:=(zzi (x:=Con.con x) (a:=Con.con a)).1
  rwa [← es,List.length_map] at this
 refine Evs ?_
 refine Wk ?_
 rw [← hacc,← es]
 refine zoe (ι:=Nat × List DOption) (fun i=>⟨[(5,true,.c (.p 0 0)),(6,true,.c (.v (.slice none 0 0))),(7,true,.c (.s 1)),(26,true,.c (.v s.val)),(27,true,.c (.v (.int .i64 s.l.length))),(28,true,.c (.v (.int .i64 i.1)))],[(0,.box 69 [.v (.int .i64 q.start),.v (.int .i64 q.arr),.v (.int .i64 q.cost),.v q.pas.val]),(1,.row 69 4 i.2.length (i.2.flatMap Enc.enc))],h2,2⟩) (fun i=>i.1≤s.l.length∧i.2.length≤i.1+1∧i.2.map Con.con=ac.map Con.con ++ ((s.l.map Con.con).take i.1).filter (fun o=>!zut o (Con.con q))∧(∀ y ∈ i.2,Enc.ok h2 y∧Foot.own h2 y)∧(i.2.flatMap Foot.foot).Sublist (ac.flatMap Foot.foot ++ (s.l.take i.1).flatMap Foot.foot)) (fun i=>s.l.length - i.1) (0,ac) ⟨Nat.zero_le _,by omega,by simp,fun y hy=>⟨Enc.mono le2 (hacok y hy),(Foot.loc (hacok y hy) (hacm.1 y hy) fun b _ o ho=>le2 b o ho).2⟩,by simp⟩ [2,3] ?_ ?_
 ·refine Evs ?_
  exact Gk
 rintro ⟨k,acc⟩ ⟨hk,hal,hmp,hok,hsub⟩
 simp only at hk hal hmp hok hsub
 refine Wk ?_
 refine zc9 rfl (fun hd=>?_) (fun hd=>?_)
 ·have hlt:=zjH hd
  have hke:((s.l.map (Con.con (α:=DOption))).take (k+1)).filter (fun o=>!zut o (Con.con q))=((s.l.map Con.con).take k).filter (fun o=>!zut o (Con.con q)) ++ (if zut (Con.con s.l[k]) (Con.con q)=true then [] else [Con.con s.l[k]]):=by
   rw [List.take_succ_eq_append_getElem (by rw [List.length_map];exact hlt),List.filter_append,List.getElem_map]
   cases hh:zut (Con.con s.l[k]) (Con.con q) <;> simp [hh]
  have hsk:((s.l.take k).flatMap (Foot.foot (α:=DOption))).Sublist ((s.l.take (k+1)).flatMap Foot.foot):=by
   rw [List.take_succ_eq_append_getElem hlt,List.flatMap_append];exact List.sublist_append_left _ _
  repeat' first|refine Wa ?_|refine zhF (fun _=>zuv s.l[k] q _ (oks.el hlt) hq2) ?_|(simp only [go_sem,jq,jj,jy,jv,jk,jx,zkC oks hlt,oks.some hlt,hlt,jW];try rfl)|refine Wb ?_|fail
  refine zc9 rfl (fun hi=>?_) (fun hi=>?_)
  ·rw [Bool.not_eq_true'] at hi
   refine Wk ?_
   refine ⟨by simp only [maxLen];omega,by omega,?_⟩
   refine Wk ?_
   refine ⟨(k+1,acc ++ [s.l[k]]),[0,4],⟨hlt,by simp only [List.length_append,List.length_singleton];omega,?_,fun y hy=>?_,?_⟩,by simp only;omega,?_⟩
   ·show (acc ++ [s.l[k]]).map Con.con=_
    rw [hke,if_neg (by rw [hi];exact Bool.false_ne_true),List.map_append,hmp,List.append_assoc];rfl
   ·rcases List.mem_append.1 hy with hy|hy
    ·exact hok y hy
    ·rw [List.mem_singleton.1 hy];exact ⟨oks.el hlt,zBN ms.1 hlt⟩
   ·show ((acc ++ [s.l[k]]).flatMap Foot.foot).Sublist _
    rw [List.flatMap_append,List.take_succ_eq_append_getElem hlt,List.flatMap_append,← List.append_assoc]
    exact List.Sublist.append hsub (List.Sublist.refl _)
   refine Evs ?_
   simp only [List.flatMap_append,List.length_append]
   exact Gi (zjA hlt (by omega))
  ·rw [Bool.not_eq_false'] at hi
   refine Wk ?_
   refine ⟨(k+1,acc),[0,1],⟨hlt,by simp only;omega,?_,hok,hsub.trans (List.Sublist.append (List.Sublist.refl _) hsk)⟩,by simp only;omega,?_⟩
   ·simp only
    rw [hke,if_pos hi,List.append_nil];exact hmp
   refine Evs ?_
   exact Gi (zjA hlt (by omega))
 ·have hge:=zjI hd
  obtain rfl:k=s.l.length:=by omega
  refine zc6 ?_
  refine Evs ?_
  have hsl:(s.l.flatMap Foot.foot).Sublist (Foot.foot s):=by
   by_cases hne:s.l=[]
   ·rw [hne];exact List.nil_sublist _
   ·rw [show Foot.foot s=_ from Sl.foot_ne hne]
    exact List.sublist_cons_self _ _
  rw [List.take_length] at hsub
  have hmm:Mines h h2 acc:=by
   have hnd:(ac.flatMap Foot.foot ++ s.l.flatMap Foot.foot).Nodup:=by
    refine List.nodup_append.2 ⟨hacm.2.2,ms.2.2.sublist hsl,fun u hu v hv e=>?_⟩
    subst e
    obtain ⟨y,hy,hu⟩:=List.mem_flatMap.1 hu
    exact Foot.dom (hacm.1 y hy) u hu (ms.2.1 u (hsl.subset hv))
   refine ⟨fun y hy=>(hok y hy).2,fun b hb=>?_,hnd.sublist hsub⟩
   rcases List.mem_append.1 (hsub.subset hb) with hb|hb
   ·exact hacm.2.1 b hb
   ·exact zmx le1 (ms.2.1 b (hsl.subset hb))
  refine zlE 1 acc rfl rfl rfl rfl (by decide) (fun y hy=>(hok y hy).1) h (Hp.le_trans le1 le2) hmm fun w h' e2 e3 e4 e5=>?_
  refine Wk ?_
  refine ⟨w,rfl,?_,e3,e5⟩
  show w.l.map Con.con=_
  rw [e2,hmp,List.take_of_length_le (by rw [List.length_map];exact Nat.le_refl _)]
abbrev wL (x:DHarbour) (a:DCall) (r:List Int):List Bool:=zyl (Con.con x.chart) ((zwV (Con.con x.chart) a.src r).getD []) r.length
abbrev mL (x:DHarbour) (a:DCall) (r:List Int):List Int:=minL (Con.con x.chart) (zyD (Con.con x) a) r r.length
abbrev uL (x:DHarbour) (a:DCall) (r:List Int):List (List DWindow):=zym (Con.con x.forecast) (Con.con x.chart) (zyD (Con.con x) a) r r.length
structure Voy (x:DHarbour) (a:DCall) (r:List Int) (m:Int) (pl l:List Int):Prop where
 hc:zva (Con.con x.chart)=true
 so:zvj (zyD (Con.con x) a)=true
 n0:0 < r.length
 n8:r.length≤8
 rt:zwV (Con.con x.chart) a.src r=some pl
 pk:ptsK (Con.con x.chart).segments a.src r r.length=some pl
 rg:∀ i,i < r.length→0≤r.getD i 0∧r.getD i 0 < (Con.con x.chart).segments.length
 ml:(mL x a r).length=r.length
 mi:∀ i,i < r.length→1≤(mL x a r).getD i 0∧(mL x a r).getD i 0≤480
 sr:zyB (Con.con x.forecast) (Con.con x.chart) (zyD (Con.con x) a) a.src r m=some l
 hm:zwb ((uL x a r).getD 0 []) m=true
 sl:slK (wL x a r) (mL x a r) (uL x a r) m (r.length - 1)=some l
 ll:l.length=r.length
 li:∀ i,i < r.length→0≤l.getD i 0∧l.getD i 0≤2880
 lo:m+zzm (mL x a r) (r.length - 1)≤l.getD (r.length - 1) 0
 ar:zxJ (Con.con x.chart) (zyD (Con.con x) a) r l=l.getD (r.length - 1) 0+(mL x a r).getD (r.length - 1) 0
 ps:zxN (Con.con x.chart) a.ship (zyD (Con.con x) a) a.src r l=pasL (Con.con x.chart) a.ship (zyD (Con.con x) a) pl r l r.length
theorem zBV {x:DHarbour} {a:DCall} {r:List Int} (hok:zvB (Con.con x) a=true) (hcv:cvOk (Con.con x) a r=true) {m:Int} (h0:0≤m∧m≤2880) {l:List Int} (hs:zyB (Con.con x.forecast) (Con.con x.chart) (zyD (Con.con x) a) a.src r m=some l):∃ pl,Voy x a r m pl l:=by
 obtain ⟨_,hC,⟨hsi,hsh,hso⟩,_⟩:=zyE hok
 have hv:voOk (Con.con x.forecast) (Con.con x.chart) (zyD (Con.con x) a) a.src r=true:=by
  rw [cvOk,jJ] at hcv;exact hcv.2
 have hR:zxf (Con.con x.chart) a.src r=true:=by
  rw [zyF hok,jJ] at hv;exact hv.1
 have hlen0:0 < r.length:=by
  rw [zyF hok,jJ,decide_eq_true_eq] at hv;exact hv.2
 obtain ⟨_,hin,pl,hptl,hpk,hplen,hpx⟩:=zxi hR
 have hrl:r.length≤8:=by have:=zxZ hC (zw5 hpk) hpx;omega
 have hrg:∀ i,i < r.length→0≤r.getD i 0∧r.getD i 0 < (Con.con x.chart).segments.length:=fun i hi=>by
  rw [iget hi];exact zxj hpk (Nat.le_refl _) i hi hi
 have hml:(mL x a r).length=r.length:=by rw [mL,minL,rmap_len]
 have hmi:∀ i,i < r.length→1≤(mL x a r).getD i 0∧(mL x a r).getD i 0≤480:=fun i hi=>by
  rw [mL,zzr hi]
  exact zzj (zzk hC (by have:=hrg i hi;omega))
 have h3:=hs
 rw [zyB,if_pos hv,zys] at h3
 split at h3
 ·rename_i hm
  rw [show (zym (Con.con x.forecast) (Con.con x.chart) (zyD (Con.con x) a) r r.length).length=r.length by rw [zym,rmap_len]] at h3
  obtain ⟨h4,h5,h6⟩:=zzo h0 (fun i hi=>hmi i (by omega)) (by rw [hml];omega) h3
  have h5':∀ i,i < r.length→0≤l.getD i 0∧l.getD i 0≤2880:=fun i hi=>h5 i (by omega)
  have hpo:arOk (Con.con x.chart) (zyD (Con.con x) a) r l=true:=by
   rw [arOk,jJ,jJ,jJ,Bool.not_eq_true',decide_eq_false_iff_not,decide_eq_true_eq,decide_eq_true_eq,hsh]
   refine ⟨⟨⟨?_,hso⟩,hlen0⟩,by omega⟩
   rw [zxn,if_pos ⟨hC,fun i hi=>by
    rw [rmOk,decide_eq_true_eq];exact hrg i hi⟩]
   have:=zzs hC (fun i hi=>zxj hpk (Nat.le_refl _) i hi hi) hrl (k:=r.length) (Nat.le_refl _)
   rw [List.take_length] at this
   omega
  refine ⟨pl,hC,by rw [hsh];exact hso,hlen0,hrl,hptl,hpk,hrg,hml,hmi,hs,hm,h3,by omega,h5',h6,?_,?_⟩
  ·have h7:=h5' (r.length - 1) (by omega)
   have h8:=hmi (r.length - 1) (by omega)
   rw [mL,zzr (by omega)] at h8 ⊢
   rw [zxJ,if_pos hpo,if_pos (by rw [In,jJ,decide_eq_true_eq,decide_eq_true_eq];exact h7),zjz (by omega)]
  ·rw [zxN,if_pos,hptl]
   ·rfl
   ·refine ⟨?_,fun i hi=>?_⟩
    ·rw [zxM,jJ,jJ,decide_eq_true_eq,hsh]
     exact ⟨⟨hR,hso⟩,by omega⟩
    ·rw [In,jJ,decide_eq_true_eq,decide_eq_true_eq];exact h5' i hi
 ·cases h3
theorem zBW {t t':Int} (h:t≤t'):∀ {l:List DWindow} {w w':DWindow},(∀ w ∈ l,w.src≤w.dst)→l.find? (fun w=>decide (t≤w.dst))=some w→l.find? (fun w=>decide (t'≤w.dst))=some w'→max w.src t≤max w'.src t'
 | [],w,w',_,h1,_=>by cases h1
 | y :: l,w,w',hw,h1,h2=>by
  have hy:=hw y (List.mem_cons_self ..)
  rw [List.find?_cons] at h1 h2
  by_cases c1:t≤y.dst
  ·rw [decide_eq_true c1] at h1
   obtain rfl:=Option.some.inj h1
   by_cases c2:t'≤y.dst
   ·rw [decide_eq_true c2] at h2
    obtain rfl:=Option.some.inj h2
    omega
   ·omega
  ·rw [decide_eq_false c1] at h1
   rw [decide_eq_false (by omega)] at h2
   exact zBW h (fun w hw'=>hw w (List.mem_cons_of_mem _ hw')) h1 h2
theorem zBX {l:List DWindow} (h:zwa l=true):∀ w ∈ l,0≤w.src∧w.src≤w.dst∧w.dst≤2880:=fun w hw=>by
 obtain ⟨i,hi,e⟩:=List.getElem_of_mem hw
 have h2:=of_decide_eq_true h i hi
 rw [zv9,decide_eq_true_eq,wget hi,e] at h2
 exact h2.1
theorem zBY {l:List DWindow} {t t':Int} (h:t≤t') (h1:¬ zwc l t < 0) (h2:¬ zwc l t' < 0):zwc l t≤zwc l t':=by
 unfold zwc at h1 h2 ⊢
 by_cases hw:zwa l=true
 ·rw [if_pos hw] at h1 h2 ⊢
  rw [if_pos hw]
  cases e1:l.find? (fun w=>decide (t≤w.dst)) with
  | none=>rw [e1] at h1;exact absurd (show (-1:Int) < 0 by decide) h1
  | some w =>
   cases e2:l.find? (fun w=>decide (t'≤w.dst)) with
   | none=>rw [e2] at h2;exact absurd (show (-1:Int) < 0 by decide) h2
   | some w'=>exact zBW h (fun w hm=>(zBX hw w hm).2.1) e1 e2
 ·rw [if_neg hw] at h1;exact absurd (show (-1:Int) < 0 by decide) h1
theorem zBZ {l:List DWindow} {t:Int} (h1:¬ zwc l t < 0):zwb l (zwc l t)=true:=by
 unfold zwc at h1 ⊢
 by_cases hw:zwa l=true
 ·rw [if_pos hw] at h1 ⊢
  cases e1:l.find? (fun w=>decide (t≤w.dst)) with
  | none=>rw [e1] at h1;exact absurd (show (-1:Int) < 0 by decide) h1
  | some w =>
   have hm:=List.mem_of_find?_eq_some e1
   have h3:=List.find?_some e1
   have h3:t≤w.dst:=of_decide_eq_true h3
   have h4:=zBX hw w hm
   rw [zwb,List.any_eq_true]
   refine ⟨w,hm,?_⟩
   rw [In,jJ,decide_eq_true_eq,decide_eq_true_eq]
   show w.src≤max w.src t∧max w.src t≤w.dst
   omega
 ·rw [if_neg hw] at h1;exact absurd (show (-1:Int) < 0 by decide) h1
theorem zB0 {w:List Bool} {m:List Int} {u:List (List DWindow)} {st:Int} (h0:zwb (u.getD 0 []) st=true):∀ {k:Nat} {l:List Int},slK w m u st k=some l→∀ i,i≤k→zwb (u.getD i []) (l.getD i 0)=true
 | 0,l,h,i,hi=>by
  rw [slK] at h
  rw [← Option.some.inj h,Nat.le_zero.1 hi]
  exact h0
 | k+1,l,h,i,hi=>by
  rw [slK] at h
  obtain ⟨p,hp,h⟩:=Option.bind_eq_some_iff.1 h
  have hl:=zyw hp
  unfold zyr at h
  dsimp only at h
  split at h
  ·cases h
  ·rename_i hc
   rw [not_or] at hc
   rw [← Option.some.inj h]
   rcases Nat.lt_or_ge k i with hik|hik
   ·obtain rfl:i=k+1:=by omega
    rw [zBE hl]
    exact zBZ hc.1
   ·rw [zBD (by omega)]
    exact zB0 h0 hp i hik
theorem zB1 {w:List Bool} {m:List Int} {u:List (List DWindow)} {st st':Int} (hst:0≤st∧st≤2880) (hst':0≤st'∧st'≤2880) (hle:st≤st') (hm:∀ i,i < m.length→1≤m.getD i 0∧m.getD i 0≤480):∀ {k:Nat} {l l':List Int},k≤m.length→slK w m u st k=some l→slK w m u st' k=some l'→∀ i,i≤k→l.getD i 0≤l'.getD i 0
 | 0,l,l',_,h,h',i,hi=>by
  rw [slK] at h h'
  rw [← Option.some.inj h,← Option.some.inj h',Nat.le_zero.1 hi]
  exact hle
 | k+1,l,l',hk,h,h',i,hi=>by
  rw [slK] at h h'
  obtain ⟨p,hp,h⟩:=Option.bind_eq_some_iff.1 h
  obtain ⟨p',hp',h'⟩:=Option.bind_eq_some_iff.1 h'
  have hl:=zyw hp
  have hl':=zyw hp'
  have ih:=zB1 hst hst' hle hm (k:=k) (by omega) hp hp'
  have b1:=(zzo hst hm (k:=k) (by omega) hp).2.1 k (Nat.le_refl _)
  have b2:=(zzo hst' hm (k:=k) (by omega) hp').2.1 k (Nat.le_refl _)
  have hmk:=hm k (by omega)
  have h1:=ih k (Nat.le_refl _)
  unfold zyr at h h'
  dsimp only at h h'
  rw [zjz (by omega)] at h h'
  split at h
  ·cases h
  ·rename_i hc
   split at h'
   ·cases h'
   ·rename_i hc'
    rw [not_or] at hc hc'
    rw [← Option.some.inj h,← Option.some.inj h']
    rcases Nat.lt_or_ge k i with hik|hik
    ·obtain rfl:i=k+1:=by omega
     rw [zBE hl,zBE hl']
     exact zBY (by omega) hc.1 hc'.1
    ·rw [zBD (by omega),zBD (by omega)]
     exact ih i hik
theorem Voy.mono {x:DHarbour} {a:DCall} {r:List Int} {m m':Int} {pl l pl' l':List Int} (V:Voy x a r m pl l) (V':Voy x a r m' pl' l') (h0:0≤m∧m≤2880) (h0':0≤m'∧m'≤2880) (hle:m≤m') (i:Nat) (hi:i < r.length):l.getD i 0≤l'.getD i 0 :=
 zB1 h0 h0' hle (fun j hj=>V.mi j (by have:=V.ml;omega)) (by have:=V.ml;omega) V.sl V'.sl i (by omega)
theorem Voy.has {x:DHarbour} {a:DCall} {r:List Int} {m:Int} {pl l:List Int} (V:Voy x a r m pl l) (i:Nat) (hi:i < r.length):zwb ((uL x a r).getD i []) (l.getD i 0)=true:=zB0 V.hm V.sl i (by omega)
def arrV (x:DHarbour) (a:DCall) (r l:List Int):Int:=l.getD (r.length - 1) 0+(mL x a r).getD (r.length - 1) 0
theorem Voy.opt {x:DHarbour} {a:DCall} {r:List Int} {m:Int} {pl l:List Int} (V:Voy x a r m pl l):zyJ (Con.con x) a r m=(⟨m,arrV x a r l,zyH a.ready (arrV x a r l) (mL x a r),pasL (Con.con x.chart) a.ship (zyD (Con.con x) a) pl r l r.length⟩,decide (arrV x a r l≤2880)):=by
 have h1:=V.sr
 have h2:=V.ar
 have h3:=V.ps
 unfold zyJ
 rw [show (Con.con x).forecast=Con.con x.forecast from rfl,show (Con.con x).chart=Con.con x.chart from rfl,h1]
 dsimp only
 rw [zyI,show (Con.con x).chart=Con.con x.chart from rfl,h2,h3]
 rfl
theorem Voy.cost {x:DHarbour} {a:DCall} {r:List Int} {m:Int} {pl l:List Int} (V:Voy x a r m pl l) (hr:0≤a.ready∧a.ready≤2880):zyH a.ready (arrV x a r l) (mL x a r)=arrV x a r l - a.ready - zzm (mL x a r) r.length:=by
 have hn:=V.n0
 have h1:=V.li (r.length - 1) (by omega)
 have h2:=V.mi (r.length - 1) (by omega)
 have hml:=V.ml
 have h8:=V.n8
 have h3:=zzp (m:=mL x a r) (fun i hi=>V.mi i (by omega)) (by omega) (z:=arrV x a r l - a.ready) (by unfold arrV;omega) (k:=r.length) (by omega)
 rw [List.take_of_length_le (by omega)] at h3
 rw [zyH,zjz (by unfold arrV;omega),h3]
theorem Voy.sum {x:DHarbour} {a:DCall} {r:List Int} {m:Int} {pl l:List Int} (V:Voy x a r m pl l):m+zzm (mL x a r) r.length≤arrV x a r l:=by
 have h1:=V.lo
 have hn:=V.n0
 obtain ⟨k,hk⟩:∃ k,r.length=k+1:=⟨r.length - 1,by omega⟩
 have e:zzm (mL x a r) r.length=zzm (mL x a r) (r.length - 1)+(mL x a r).getD (r.length - 1) 0:=by
  rw [show zzm (mL x a r) r.length=zzm (mL x a r) (r.length - 1+1) by rw [show r.length - 1+1=r.length by omega]]
  rfl
 unfold arrV
 omega
theorem zB2 {x:DHarbour} {a:DCall} {r:List Int} (hok:zvB (Con.con x) a=true) (hcv:cvOk (Con.con x) a r=true) {m:Int} (h0:0≤m∧m≤2880) (h2:(zyJ (Con.con x) a r m).2=true):∃ pl l,Voy x a r m pl l∧arrV x a r l≤2880:=by
 cases hs:zyB (Con.con x.forecast) (Con.con x.chart) (zyD (Con.con x) a) a.src r m with
 | none =>
  unfold zyJ at h2
  rw [show (Con.con x).forecast=Con.con x.forecast from rfl,show (Con.con x).chart=Con.con x.chart from rfl,hs] at h2
  cases h2
 | some l =>
  obtain ⟨pl,V⟩:=zBV hok hcv h0 hs
  refine ⟨pl,l,V,?_⟩
  rw [V.opt] at h2
  exact of_decide_eq_true h2
def zB3 (opt:Int→POption × Bool) (lo due s:Int) (acc:List POption):Prop:=(∀ y ∈ acc,opt y.start=(y,true)∧lo≤y.start∧y.start≤due∧(y.start - lo) % 15=0∧y.start < s)∧acc.Pairwise (fun y z=>y.start < z.start)∧acc.length≤8
theorem zB4 {opt:Int→POption × Bool} {lo due:Int} (hlo:0≤lo) (hdue:due≤2880) (hst:∀ m,(opt m).2=true→(opt m).1.start=m):∀ {f:Nat} {s:Int} {acc:List POption},lo≤s→s≤3000→(s - lo) % 15=0→zB3 opt lo due s acc→zB3 opt lo due 3000 (zy0 opt due f s acc)
 | 0,s,acc,h1,h2,h3,H=>⟨fun y hy=>by
   obtain ⟨a1,a2,a3,a4,a5⟩:=H.1 y hy
   exact ⟨a1,a2,a3,a4,by omega⟩,H.2.1,H.2.2⟩
 | f+1,s,acc,h1,h2,h3,H=>by
  unfold zy0
  split
  ·rename_i hc
   rw [zjz (by omega)]
   refine zB4 hlo hdue hst (by omega) (by omega) (by omega) ?_
   split
   ·rename_i ho
    have hs:=hst s ho
    refine ⟨fun y hy=>?_,?_,?_⟩
    ·rcases List.mem_append.1 hy with hy|hy
     ·obtain ⟨a1,a2,a3,a4,a5⟩:=H.1 y hy
      exact ⟨a1,a2,a3,a4,by omega⟩
     ·rw [List.mem_singleton.1 hy,hs]
      refine ⟨?_,h1,hc.1,h3,by omega⟩
      rw [← ho]
    ·rw [List.pairwise_append]
     refine ⟨H.2.1,List.pairwise_singleton ..,fun y hy z hz=>?_⟩
     rw [List.mem_singleton.1 hz,hs]
     exact (H.1 y hy).2.2.2.2
    ·rw [List.length_append,List.length_singleton];omega
   ·exact ⟨fun y hy=>by
     obtain ⟨a1,a2,a3,a4,a5⟩:=H.1 y hy
     exact ⟨a1,a2,a3,a4,by omega⟩,H.2.1,H.2.2⟩
  ·exact ⟨fun y hy=>by
    obtain ⟨a1,a2,a3,a4,a5⟩:=H.1 y hy
    exact ⟨a1,a2,a3,a4,by omega⟩,H.2.1,H.2.2⟩
theorem zB5 {x:PHarbour} {a:DCall} {r:List Int} {m:Int} (h:(zyJ x a r m).2=true):(zyJ x a r m).1.start=m:=by
 unfold zyJ at h ⊢
 split at h
 ·cases h
 ·rfl
theorem zB6 {x:PHarbour} {a:DCall} (h:zyd x.chart a.src a.dst=none):zy1 x a=[]:=by
 rw [zy1]
 split
 ·rw [h]
 ·rfl
theorem zB7 {x:DHarbour} {a:DCall} {r:List Int} (hok:zvB (Con.con x) a=true) (hb:zyd (Con.con x.chart) a.src a.dst=some r):zB3 (zyJ (Con.con x) a r) a.ready a.due 3000 (zy1 (Con.con x) a):=by
 obtain ⟨_,_,_,_,_,_,_,_,_,_,hr0,hr1,hr2,hr3⟩:=zyE hok
 rw [zy1,if_pos hok,show (Con.con x).chart=Con.con x.chart from rfl,hb]
 dsimp only
 exact zB4 hr0 hr3 (fun m h=>zB5 h) (Int.le_refl _) (by omega) (by rw [Int.sub_self];rfl) ⟨fun y hy=>(by cases hy),List.Pairwise.nil,Nat.zero_le _⟩
theorem zB8 {x:DHarbour} {a:DCall} {y:POption} (hy:y ∈ zy1 (Con.con x) a):zyW (Con.con x) a y=true:=by
 cases hok:zvB (Con.con x) a with
 | false=>rw [zy5 hok] at hy;cases hy
 | true =>
  cases hb:zyd (Con.con x.chart) a.src a.dst with
  | none=>rw [zB6 (show zyd (Con.con x).chart a.src a.dst=none from hb)] at hy;cases hy
  | some r =>
   obtain ⟨h1,h2,h3,h4,_⟩:=(zB7 hok hb).1 y hy
   obtain ⟨_,_,_,_,_,_,_,_,_,_,hr0,hr1,hr2,hr3⟩:=zyE hok
   have hcv:=zy4 hok hb
   obtain ⟨pl,l,V,hle⟩:=zB2 hok hcv (m:=y.start) (by omega) (by rw [h1])
   have hseg:y.pas.map (·.seg)=r:=by
    have e:=V.opt
    rw [h1] at e
    have e2:=congrArg (fun z=>z.1.pas) e
    dsimp only at e2
    rw [e2]
    refine List.ext_getElem (by rw [List.length_map,zxQ]) fun i h5 h6=>?_
    simp only [pasL,List.map_map,List.getElem_map,List.getElem_range,Function.comp,zxL]
    rw [iget h6]
   rw [zyW,hseg,zyR,if_pos,h1]
   ·rw [Bool.true_and,zut];exact decide_eq_true rfl
   ·rw [jJ,jJ,jJ,In,jJ,decide_eq_true_eq,decide_eq_true_eq]
    exact ⟨⟨⟨hok,h2,h3⟩,hcv⟩,by rw [h1]⟩
theorem zB9 {x:DHarbour} {a:DCall}:(zy1 (Con.con x) a).Pairwise (fun y z=>y.start < z.start∧y.cost≤z.cost):=by
 cases hok:zvB (Con.con x) a with
 | false=>rw [zy5 hok];exact List.Pairwise.nil
 | true =>
  cases hb:zyd (Con.con x.chart) a.src a.dst with
  | none=>rw [zB6 (show zyd (Con.con x).chart a.src a.dst=none from hb)];exact List.Pairwise.nil
  | some r =>
   obtain ⟨h1,h2,h3⟩:=zB7 hok hb
   obtain ⟨_,_,_,_,_,_,_,_,_,_,hr0,hr1,hr2,hr3⟩:=zyE hok
   have hcv:=zy4 hok hb
   refine List.Pairwise.imp_of_mem (fun {y z} hy hz hlt=>⟨hlt,?_⟩) h2
   obtain ⟨a1,a2,a3,_⟩:=h1 y hy
   obtain ⟨b1,b2,b3,_⟩:=h1 z hz
   obtain ⟨pl,l,V,hle⟩:=zB2 hok hcv (m:=y.start) (by omega) (by rw [a1])
   obtain ⟨pl',l',V',hle'⟩:=zB2 hok hcv (m:=z.start) (by omega) (by rw [b1])
   have e1:y.cost=arrV x a r l - a.ready - zzm (mL x a r) r.length:=by
    have e:=V.opt
    rw [a1] at e
    have e2:=congrArg (fun z=>z.1.cost) e
    dsimp only at e2
    rw [e2,V.cost (by omega)]
   have e3:z.cost=arrV x a r l' - a.ready - zzm (mL x a r) r.length:=by
    have e:=V'.opt
    rw [b1] at e
    have e2:=congrArg (fun z=>z.1.cost) e
    dsimp only at e2
    rw [e2,V'.cost (by omega)]
   have hm:=V.mono V' (by omega) (by omega) (by omega) (r.length - 1) (by have:=V.n0;omega)
   rw [e1,e3]
   unfold arrV
   omega
theorem zCa {P:Nat→Prop} (h:∃ n,P n):∃ n,P n∧∀ m,P m→n≤m:=by
 classical
 obtain ⟨n,hn⟩:=h
 induction n using Nat.strongRecOn with
 | _ n ih =>
  by_cases hc:∃ m,m < n∧P m
  ·obtain ⟨m,hm,hp⟩:=hc;exact ih m hm hp
  ·exact ⟨n,hn,fun m hm=>Nat.le_of_not_lt fun hlt=>hc ⟨m,hlt,hm⟩⟩
theorem zCb {both:Nat→Nat→Bool} {n:Nat}:∃ w k,zA4 both n=some (w,k)∧CovOn both (fun i=>i < n) k∧(∀ j,CovOn both (fun i=>i < n) j→k≤j)∧k≤n:=by
 obtain ⟨k,h1,h2⟩:=zCa (P:=fun k=>CovOn both (fun i=>i < n) k) ⟨n,CovOn.id fun i hi=>hi⟩
 obtain ⟨w,hw⟩:=Option.isSome_iff_exists.1 (zA7.2 h1)
 have hm:k≤n:=h2 n (CovOn.id fun i hi=>hi)
 refine ⟨w,k,zA8 (fun j hj=>?_) hw hm,h1,h2,hm⟩
 cases hh:znR both j n [] with
 | none=>rfl
 | some w' =>
  have:=h2 j (zA7.1 (by rw [hh];rfl))
  omega
theorem zCc {p:Int} {m:List Int} {l:List DDuty} (h:zA5 p m l=true):0≤(zA6 p m l).2.1∧(zA6 p m l).2.1≤l.length∧∀ k:Int,(zA6 p m l).2.1≤k ↔ 0≤k∧CovOn (zA3 p m l) (fun i=>i < l.length) k.toNat:=by
 obtain ⟨w,n,h1,h2,h3,h4⟩:=zCb (both:=zA3 p m l) (n:=l.length)
 rw [zBd h h1]
 refine ⟨jY _,by simp only;omega,fun k=>⟨fun hk=>?_,fun hk=>?_⟩⟩
 ·simp only at hk
  exact ⟨by omega,h2.mono (by omega)⟩
 ·have:=h3 _ hk.2
  simp only;omega
def pilD (c:PChart) (l:List POption):List DDuty:=(l.filter fun o=>decide (0 < o.pas.length)).map fun o=>zxA c (o.pas.getD 0 dQ) (o.pas.getD (o.pas.length - 1) dQ)
theorem zCd {c:PChart} {f:List DShip}:∀ {l:List POption},(∀ o ∈ l,zBC c f o.pas)→pilL c f (l.map (·.pas))=pilD c l
 | [],_=>rfl
 | o :: l,h=>by
  obtain ⟨h1,h2,h3⟩:=h o (List.mem_cons_self ..)
  have ih:=zCd (l:=l) fun y hy=>h y (List.mem_cons_of_mem _ hy)
  rw [pilL,pilD] at ih ⊢
  rw [List.map_cons,List.filter_cons_of_pos (by simpa using h1),List.filter_cons_of_pos (by simpa using h1),List.map_cons,List.map_cons,ih,zxD h1 h2 h3]
theorem zCe {c:PChart} {f:List DShip} {l:List POption} (h:∀ o ∈ l,zBC c f o.pas):zBp c f (l.map (·.pas)):=fun x hx _=>by
 obtain ⟨o,ho,rfl⟩:=List.mem_map.1 hx
 obtain ⟨h1,h2,h3⟩:=h o ho
 rw [zxD h1 h2 h3]
theorem zCf {c:PChart} {l:List POption}:(pilD c l).length≤l.length:=by
 rw [pilD,List.length_map];exact List.length_filter_le _ _
theorem zCg {c:PChart} {f:List DShip} {l:List POption} (h:∀ o ∈ l,zBC c f o.pas) (h12:l.length≤12):zz2 (pilD c l)=true:=by
 rw [← zCd h]
 refine zBt (zCe h) ?_
 rw [zCd h]
 exact Nat.le_trans zCf h12
theorem zCh {x:PHarbour} {a:DCall}:zyW x a zeroO=false:=by
 have h:(zvB x a && In zeroO.start a.ready a.due && cvOk x a (zeroO.pas.map (·.seg)) && (zyJ x a (zeroO.pas.map (·.seg)) zeroO.start).2)=false:=by
  have:cvOk x a (zeroO.pas.map (·.seg))=false:=by
   rw [cvOk,voOk,show decide (0 < (zeroO.pas.map (·.seg)).length)=false from rfl,Bool.and_false,Bool.and_false]
  rw [this,Bool.and_false,Bool.false_and]
 rw [zyW,zyS h];rfl
theorem zCi {x:PHarbour} {a:DCall} (h:zy1 x a=[]):zBO x a zeroO=[]:=by
 rw [zBO]
 split
 ·rw [if_neg (by rw [zCh];exact Bool.false_ne_true),h];rfl
 ·rfl
theorem zCj {x:DHarbour} {a:DCall} (hok:zvB (Con.con x) a=true) (hne:zy1 (Con.con x) a ≠ []) :
  zBO (Con.con x) a ((zy1 (Con.con x) a).getLast hne)=(zy1 (Con.con x) a).getLast hne :: (zy1 (Con.con x) a).dropLast:=by
 have hp:=zB9 (x:=x) (a:=a)
 have hi:=zB8 (x:=x) (a:=a) (List.getLast_mem hne)
 have hsp:=(List.dropLast_concat_getLast hne).symm
 generalize (zy1 (Con.con x) a).getLast hne=old at *
 rw [zBO,if_pos hok,if_pos hi,hsp]
 rw [hsp,List.pairwise_append] at hp
 obtain ⟨_,_,hp⟩:=hp
 have e1:((zy1 (Con.con x) a).dropLast).filter (fun o=>!zut o old)=(zy1 (Con.con x) a).dropLast:=List.filter_eq_self.2 fun o ho=>by
  rw [Bool.not_eq_true',zut,decide_eq_false_iff_not]
  intro e
  have:=(hp o ho old (List.mem_singleton.2 rfl)).1
  rw [e] at this
  exact absurd this (Int.lt_irrefl _)
 have e2:([old]:List POption).filter (fun o=>!zut o old)=[]:=by
  rw [List.filter_cons_of_neg]
  ·rfl
  ·rw [zut,decide_eq_true rfl];exact Bool.false_ne_true
 rw [List.filter_append,e1,e2,List.append_nil,List.dropLast_concat]
 rfl
theorem zCk {x:DHarbour} {a:DCall} {y:POption} (hy:y ∈ zy1 (Con.con x) a):0≤y.start∧y.start≤2880∧a.ready≤y.start∧y.start≤a.due∧(y.start - a.ready) % 15=0:=by
 cases hok:zvB (Con.con x) a with
 | false=>rw [zy5 hok] at hy;cases hy
 | true =>
  cases hb:zyd (Con.con x.chart) a.src a.dst with
  | none=>rw [zB6 (show zyd (Con.con x).chart a.src a.dst=none from hb)] at hy;cases hy
  | some r =>
   obtain ⟨_,_,_,_,_,_,_,_,_,_,hr0,hr1,hr2,hr3⟩:=zyE hok
   obtain ⟨h1,h2,h3,h4,_⟩:=(zB7 hok hb).1 y hy
   omega
theorem zCl {x:DHarbour} {a:DCall} {i:Nat} (hok:zvB (Con.con x) a=true) (hne:zy1 (Con.con x) a ≠ []) (hi:i+1 < (zy1 (Con.con x) a).length) :
  zuw ((zy1 (Con.con x) a).getLast hne) ((zy1 (Con.con x) a).getD i zeroO)=60+((zy1 (Con.con x) a).getLast hne).start - ((zy1 (Con.con x) a).getD i zeroO).start:=by
 have hp:=zB9 (x:=x) (a:=a)
 have h1:=zCk (x:=x) (a:=a) (List.getLast_mem hne)
 have h2:=zCk (x:=x) (a:=a) (y:=(zy1 (Con.con x) a).getD i zeroO) (by
  rw [List.getD_eq_getElem?_getD,List.getElem?_eq_getElem (by omega)];exact List.getElem_mem _)
 have h3:((zy1 (Con.con x) a).getD i zeroO).start < ((zy1 (Con.con x) a).getLast hne).start:=by
  rw [List.getLast_eq_getElem,List.getD_eq_getElem?_getD,List.getElem?_eq_getElem (by omega)]
  exact (List.pairwise_iff_getElem.1 hp i _ (by omega) (by omega) (by omega)).1
 rw [zuw,if_neg (fun e=>by rw [← e] at h3;exact Int.lt_irrefl _ h3),zjz (by omega)]
 omega
theorem zCm {x:DHarbour} {a:DCall}:(zy1 (Con.con x) a).length≤8:=by
 cases hok:zvB (Con.con x) a with
 | false=>rw [zy5 hok];exact Nat.zero_le _
 | true =>
  cases hb:zyd (Con.con x.chart) a.src a.dst with
  | none=>rw [zB6 (show zyd (Con.con x).chart a.src a.dst=none from hb)];exact Nat.zero_le _
  | some r=>exact (zB7 hok hb).2.2
theorem zCn {l:List POption} (h:l.Pairwise fun y z=>y.start < z.start∧y.cost≤z.cost) (hc:∀ o ∈ l,0≤o.cost) (hne:l ≠ []):zuC l=0:=by
 have key:∀ k,k < l.length→zuA (l.map (·.cost)) (k+1)=0:=by
  intro k
  induction k with
  | zero=>intro _;rw [zuA,zuA,if_pos (.inl (by decide))];rfl
  | succ k ih =>
   intro hk
   rw [zuA,ih (by omega),if_neg]
   rw [not_or]
   refine ⟨by decide,?_⟩
   have h1:=(List.pairwise_iff_getElem.1 h 0 (k+1) (by omega) hk (by omega)).2
   have e:∀ i (hi:i < l.length),(l.map (·.cost)).getD i 0=l[i].cost:=fun i hi=>by
    rw [List.getD_eq_getElem?_getD,List.getElem?_map,List.getElem?_eq_getElem hi];rfl
   rw [e _ hk,show (0:Int).toNat=0 from rfl,e 0 (by omega)]
   omega
 have hl:0 < l.length:=List.length_pos_iff.2 hne
 rw [zuC,show l.length=(l.length - 1)+1 by omega]
 exact key _ (by omega)
theorem zCo {g:List DSegment} {a:Int} {r:List Int}:∀ {k:Nat} {l:List Int},ptsK g a r k=some l→l.getD 0 0=a
 | 0,l,h=>by rw [ptsK] at h;rw [← Option.some.inj h];rfl
 | k+1,l,h=>by
  obtain ⟨p,hp,hs⟩:=zw3 h
  have hl:=zw4 hp
  obtain ⟨_,_,_,e⟩:=zw1 hs
  rw [e,zBD (by omega)]
  exact zCo hp
theorem Voy.ends {x:DHarbour} {a:DCall} {r:List Int} {m:Int} {pl l:List Int} (V:Voy x a r m pl l) {i:Nat} (hi:i < r.length):zvF (Con.con x.chart) (zxL (Con.con x.chart) a.ship (zyD (Con.con x) a) pl r l i)=(pl.getD i 0,pl.getD (i+1) 0):=by
 have e1:=zBG V.pk i hi
 have f1:=zBH e1.2
 unfold zvF zxL
 dsimp only
 rcases f1 with f1|f1
 ·rw [if_pos (by rw [beq_iff_eq];exact f1.1),e1.1,f1.2]
  exact Prod.ext f1.1.symm rfl
 ·rw [if_neg (by rw [beq_iff_eq];exact f1.1),e1.1,f1.2.2]
  exact Prod.ext f1.2.1.symm rfl
theorem zCp {x:DHarbour} {a:DCall} (hok:zvB (Con.con x) a=true) {o:POption} (ho:o ∈ zy1 (Con.con x) a) :
  zxB (Con.con x.chart) x.fleet.l o.pas=(⟨o.start,o.arr,a.src,a.dst⟩,true)∧zBq (Con.con x.crew) (Con.con x.chart) x.fleet.l [o.pas,[]]=1∧zz2 [⟨o.start,o.arr,a.src,a.dst⟩]=true:=by
 have hg:=zBK o ho
 have hw:zvn (Con.con x.crew)=true:=by
  rw [zvB,zvo,jJ,jJ] at hok
  exact hok.1.2
 cases hb:zyd (Con.con x.chart) a.src a.dst with
 | none=>rw [zB6 (show zyd (Con.con x).chart a.src a.dst=none from hb)] at ho;cases ho
 | some r =>
  obtain ⟨_,_,_,_,_,_,_,_,_,_,hr0,hr1,hr2,hr3⟩:=zyE hok
  obtain ⟨h1,h2,h3,h4,_⟩:=(zB7 hok hb).1 o ho
  have hcv:=zy4 hok hb
  obtain ⟨pl,l,V,hle⟩:=zB2 hok hcv (m:=o.start) (by omega) (by rw [h1])
  have e:=V.opt
  rw [h1] at e
  have ep:o.pas=pasL (Con.con x.chart) a.ship (zyD (Con.con x) a) pl r l r.length:=congrArg (fun z:POption × Bool=>z.1.pas) e
  have ea:o.arr=arrV x a r l:=congrArg (fun z:POption × Bool=>z.1.arr) e
  have hn:=V.n0
  have hlast:pl.getD r.length 0=a.dst:=by
   rw [cvOk,jJ,zyC,show (Con.con x).chart=Con.con x.chart from rfl,V.rt] at hcv
   exact of_decide_eq_true hcv.1
  have hst:l.getD 0 0=o.start:=zyT V.sl
  have hpl:o.pas.length=r.length:=by rw [ep,zxQ]
  have hd:zxA (Con.con x.chart) (o.pas.getD 0 dQ) (o.pas.getD (o.pas.length - 1) dQ)=⟨o.start,o.arr,a.src,a.dst⟩:=by
   rw [hpl,ep,zBI hn,zBI (show r.length - 1 < r.length by omega),zxA,V.ends hn,V.ends (show r.length - 1 < r.length by omega),zCo V.pk,show r.length - 1+1=r.length by omega,hlast]
   have e1:(zxL (Con.con x.chart) a.ship (zyD (Con.con x) a) pl r l 0).start=o.start:=hst
   have e2:(zxL (Con.con x.chart) a.ship (zyD (Con.con x) a) pl r l (r.length - 1)).fin=o.arr:=by
    rw [ea,arrV]
    have b1:=V.li (r.length - 1) (by omega)
    have b2:=V.mi (r.length - 1) (by omega)
    have b3:=zzr (c:=Con.con x.chart) (s:=zyD (Con.con x) a) (r:=r) (n:=r.length) (i:=r.length - 1) (by omega)
    have b4:zvG (zyD (Con.con x) a) ((Con.con x.chart:PChart).segments.getD (r.getD (r.length - 1) 0).toNat dG)=(mL x a r).getD (r.length - 1) 0:=b3.symm
    show IntKind.i64.wrap (l.getD (r.length - 1) 0+zvG (zyD (Con.con x) a) ((Con.con x.chart:PChart).segments.getD (r.getD (r.length - 1) 0).toNat dG))=_
    rw [b4]
    exact zjz (by omega)
   rw [e1,e2]
  have hP:zxB (Con.con x.chart) x.fleet.l o.pas=(⟨o.start,o.arr,a.src,a.dst⟩,true):=by rw [zxD hg.1 hg.2.1 hg.2.2,hd]
  have hL:pilL (Con.con x.chart) x.fleet.l [o.pas,[]]=[⟨o.start,o.arr,a.src,a.dst⟩]:=by
   rw [pilL,List.filter_cons_of_pos (by rw [decide_eq_true_eq];exact hg.1),List.filter_cons_of_neg (by rw [decide_eq_true_eq];exact Nat.lt_irrefl _),List.filter_nil,List.map_cons,List.map_nil,hP]
  have hD:zz2 [⟨o.start,o.arr,a.src,a.dst⟩]=true:=by
   have:=zCg (c:=Con.con x.chart) (f:=x.fleet.l) (l:=[o]) (fun y hy=>by rw [List.mem_singleton.1 hy];exact hg) (Nat.le_of_ble_eq_true rfl)
   rw [pilD,List.filter_cons_of_pos (by rw [decide_eq_true_eq];exact hg.1),List.filter_nil,List.map_cons,List.map_nil,hd] at this
   exact this
  refine ⟨hP,?_,hD⟩
  rw [zBq,if_pos ⟨hw,fun y hy h0=>by
   rcases List.mem_cons.1 hy with rfl|hy
   ·rw [hP]
   ·rw [List.mem_singleton.1 hy] at h0;exact absurd h0 (Nat.lt_irrefl _),by rw [hL];exact Nat.le_of_ble_eq_true rfl⟩,hL]
  ·obtain ⟨hr,ht⟩:=zBn hw
   obtain ⟨a1,a2,a3⟩:=zCc (p:=(Con.con x.crew).rest) (m:=(Con.con x.crew).moves) (l:=[⟨o.start,o.arr,a.src,a.dst⟩]) (by rw [zA5,hD,hr,ht];rfl)
   have h0:¬ (zA6 (Con.con x.crew).rest (Con.con x.crew).moves [⟨o.start,o.arr,a.src,a.dst⟩]).2.1≤0:=fun h=>by
    obtain ⟨_,g,g1,_⟩:=(a3 0).1 h
    have:=g1 0 (Nat.lt_succ_self 0);omega
   have h1:(zA6 (Con.con x.crew).rest (Con.con x.crew).moves [⟨o.start,o.arr,a.src,a.dst⟩]).2.1≤1:=a2
   omega
def zCq (f:PForecast) (c:PChart) (k:Int) (s:DShip) (m:Int):Bool:=zwb (zwO f c k s) m
def zCr (f:PForecast) (c:PChart) (fl:List DShip) (p:DPassage):Bool:=zvI c fl p && zCq f c p.seg (fl.getD p.ship.toNat dH) p.start
def zCs (S:Int→Option (List Int)):Nat→Int→Option (List Int)
 | 0,_=>none
 | f+1,m=>if m≤2880 then (match S m with|some l=>some l|none=>zCs S f (m+1)) else none
def zCt (f:PForecast) (c:PChart) (s:DShip) (a:Int) (r:List Int) (rd:Int):Option (List Int):=zCs (zyB f c s a r) (2881 - max rd 0).toNat (max rd 0)
theorem zCu {f:PForecast} {c:PChart} {s:DShip} {a:Int} {r:List Int} (h:voOk f c s a r=false):∀ {n:Nat} {m:Int},zCs (zyB f c s a r) n m=none
 | 0,m=>rfl
 | n+1,m=>by
  have e:zyB f c s a r m=none:=by rw [zyB,if_neg (by rw [h];exact Bool.false_ne_true)]
  rw [zCs,e]
  split
  ·exact zCu h
  ·rfl
theorem Voy.sure {x:DHarbour} {a:DCall} {r:List Int} {m:Int} {pl l:List Int} (V:Voy x a r m pl l) {i:Nat} (hi:i < r.length):zCq (Con.con x.forecast) (Con.con x.chart) (r.getD i 0) (zyD (Con.con x) a) (l.getD i 0)=true:=by
 have h:=V.has i hi
 rw [uL,zym,List.getD_eq_getElem?_getD,List.getElem?_map,List.getElem?_range hi] at h
 exact h
theorem zCv {x:DHarbour} {a:DCall} (hok:zvB (Con.con x) a=true) {o:POption} (ho:o ∈ zy1 (Con.con x) a) {p:DPassage} (hp:p ∈ o.pas) :
  zvI (Con.con x.chart) x.fleet.l p=true∧zCr (Con.con x.forecast) (Con.con x.chart) x.fleet.l p=true:=by
 have hg:=zBK o ho
 cases hb:zyd (Con.con x.chart) a.src a.dst with
 | none=>rw [zB6 (show zyd (Con.con x).chart a.src a.dst=none from hb)] at ho;cases ho
 | some r =>
  obtain ⟨_,_,⟨hsi,hsh,_⟩,_,_,_,_,_,_,_,hr0,hr1,hr2,hr3⟩:=zyE hok
  obtain ⟨h1,h2,h3,h4,_⟩:=(zB7 hok hb).1 o ho
  have hcv:=zy4 hok hb
  obtain ⟨pl,l,V,hle⟩:=zB2 hok hcv (m:=o.start) (by omega) (by rw [h1])
  have e:=V.opt
  rw [h1] at e
  have ep:o.pas=pasL (Con.con x.chart) a.ship (zyD (Con.con x) a) pl r l r.length:=congrArg (fun z:POption × Bool=>z.1.pas) e
  have hpk:zvI (Con.con x.chart) x.fleet.l p=true:=by
   obtain ⟨i,hi,rfl⟩:=List.getElem_of_mem hp
   have:=hg.2.2 i hi
   rw [pOk,qget hi] at this
   exact this
  refine ⟨hpk,?_⟩
  rw [ep,pasL] at hp
  obtain ⟨i,hi,rfl⟩:=List.mem_map.1 hp
  have hi:=List.mem_range.1 hi
  rw [zCr,hpk,Bool.true_and]
  have h5:=V.sure hi
  show zCq _ _ (r.getD i 0) (x.fleet.l.getD a.ship.toNat dH) (l.getD i 0)=true
  rw [hget hsi,← hsh]
  exact h5
theorem zCw {x:DHarbour} {a:DCall} (hok:zvB (Con.con x) a=true) {i:Nat} (hi:i < (zy1 (Con.con x) a).length) :
  let o:=(zy1 (Con.con x) a)[i]
  zyW (Con.con x) a o=true∧0≤o.cost∧a.ready≤o.start∧o.start≤a.due∧(o.start - a.ready) % 15=0∧o.start≤2880∧0≤o.start ∧
   (∀ h:0 < i,(zy1 (Con.con x) a)[i - 1].start < o.start∧(zy1 (Con.con x) a)[i - 1].cost≤o.cost):=by
 intro o
 have ho:o ∈ zy1 (Con.con x) a:=List.getElem_mem hi
 obtain ⟨h1,h2,h3,h4,h5⟩:=zCk ho
 refine ⟨zB8 ho,(zzu o ho).1,h3,h4,h5,h2,h1,fun h=>?_⟩
 exact List.pairwise_iff_getElem.1 zB9 (i - 1) i (by omega) hi (by omega)
theorem zCx {x:DHarbour} {a:DCall}:(zy1 (Con.con x) a=[]∧zuC (zy1 (Con.con x) a)=-1∧zy9 (Con.con x) a=-1) ∨
  ∃ h:0 < (zy1 (Con.con x) a).length,zuC (zy1 (Con.con x) a)=0∧zy9 (Con.con x) a=(zy1 (Con.con x) a)[0].cost:=by
 have hF:zy9 (Con.con x) a=flr (zy1 (Con.con x) a):=rfl
 cases hl:zy1 (Con.con x) a with
 | nil =>
  refine .inl ⟨rfl,rfl,?_⟩
  rw [hF,hl];rfl
 | cons y l =>
  have h0:zuC (y :: l)=0:=by
   rw [← hl]
   exact zCn zB9 (fun o ho=>(zzu o ho).1) (by rw [hl];exact List.cons_ne_nil _ _)
  refine .inr ⟨Nat.zero_lt_succ _,h0,?_⟩
  rw [hF,hl,flr,h0]
  rfl
def zCy (p:DPart):Prop:=0≤p.amp∧p.amp < 300∧p.period ∈ ([744,720,1440,372,240]:List Int)∧0≤p.phase∧p.phase < p.period
def zCz (t:DTide):Prop:=(0≤t.mean∧t.mean < 300)∧(1≤t.parts.l.length∧t.parts.l.length≤2)∧∀ p ∈ t.parts.l,zCy p
def GSur (l:List DSurge):Prop:=(1≤l.length∧l.length≤3)∧(l.getD 0 dS).src=0∧∀ i,i < l.length→zuX l i=true
def nSea:ByteArray:=⟨#[115,101,97]⟩
def nBar:ByteArray:=⟨#[98,97,114]⟩
def zCA:ByteArray:=⟨#[114,111,97,100]⟩
def zCB:ByteArray:=⟨#[113,117,97,121]⟩
def zCC:ByteArray:=⟨#[100,111,99,107]⟩
def ptsG (w:Bool) (o2:Option Int):List DPoint:=[⟨nSea,true⟩,⟨nBar,false⟩,⟨zCA,w⟩,⟨zCB,true⟩] ++ (match o2 with|none=>[]|some _=>[⟨zCC,true⟩])
def zCD (d1 m1 d2 m2 d3 m3:Int) (mt:Bool) (o1:Option (Int × Int)) (o2:Option Int):List DSegment :=
 [⟨0,1,900+d1,10+m1,false⟩,⟨1,2,800+d2,10+m2,mt⟩,⟨2,3,900+d3,5+m3,false⟩] ++ (match o1 with|none=>[]|some q=>[⟨3,1,700+q.1,20+q.2,true⟩]) ++ (match o2 with|none=>[]|some d=>[⟨2,4,800+d,15,false⟩])
def zCE (c:DChart):Prop:=∃ (w mt:Bool) (d1 m1 d2 m2 d3 m3:Int) (o1:Option (Int × Int)) (o2:Option Int),
 ((0≤d1∧d1 < 300)∧(0≤m1∧m1 < 40)∧(0≤d2∧d2 < 300)∧(0≤m2∧m2 < 30)∧(0≤d3∧d3 < 200)∧(0≤m3∧m3 < 20)) ∧
 (∀ q,o1=some q→(0≤q.1∧q.1 < 300)∧(0≤q.2∧q.2 < 30))∧(∀ d,o2=some d→0≤d∧d < 300)∧c.points.l=ptsG w o2∧c.segments.l=zCD d1 m1 d2 m2 d3 m3 mt o1 o2
def zCF (i:Nat):ByteArray:=⟨#[115,UInt8.ofNat (48+i)]⟩
def zCG (k:Int) (i:Nat) (s:DShip):Prop:=s.name=zCF i∧(40≤s.length∧s.length < 240)∧(600≤s.draught∧s.draught < 1100)∧(0≤s.line∧s.line < 4)∧(0≤s.tugs∧s.tugs < k)
def zCH (k:Int) (l:List DShip):Prop:=(1≤l.length∧l.length≤3)∧∀ i,i < l.length→zCG k i (l.getD i dH)
def zCI (w:DCrew):Prop:=(1≤w.tugs∧w.tugs < 5)∧(1≤w.pilots∧w.pilots < 4)∧(0≤w.rest∧w.rest < 60)∧w.moves.l.length=64∧∀ y ∈ w.moves.l,0≤y∧y≤20
structure zCJ (x:DHarbour):Prop where
 mean:150≤x.forecast.tide.mean∧x.forecast.tide.mean < 450
 parts:(1≤x.forecast.tide.parts.l.length∧x.forecast.tide.parts.l.length≤2)∧∀ p ∈ x.forecast.tide.parts.l,zCy p
 sur:GSur x.forecast.surges.l
 chart:zCE x.chart
 fleet:zCH 2 x.fleet.l
 gap:0≤x.regime.gap∧x.regime.gap < 30
 crew:zCI x.crew
def zCK (x:DHarbour) (a:DCall):Prop:=(0≤a.ship∧a.ship < x.fleet.l.length)∧((a.src=0∧a.dst=3)∨(a.src=3∧a.dst=0))∧(0≤a.ready∧a.ready≤435)∧(a.ready+60≤a.due∧a.due < a.ready+460)
theorem zCL {p:DPart} (H:zCy p):zuI p=true:=by
 obtain ⟨h1,h2,h3,h4,h5⟩:=H
 simp only [List.mem_cons,List.not_mem_nil,or_false] at h3
 rw [zuI,zuG]
 simp only [In,jJ,decide_eq_true_eq,beq_iff_eq]
 rcases h3 with h3|h3|h3|h3|h3 <;> rw [h3] at h5 ⊢ <;> exact ⟨⟨⟨h1,by omega⟩,⟨by decide,by decide⟩,by decide⟩,h4,by omega⟩
theorem zCM {c:DChart} (H:zCE c):4≤c.points.l.length:=by
 obtain ⟨w,mt,d1,m1,d2,m2,d3,m3,o1,o2,_,_,_,h1,_⟩:=H
 rw [h1]
 unfold ptsG
 rw [List.length_append]
 show 4≤4+_
 omega
theorem zCN (w:Bool) (o2:Option Int):(ptsG w o2).length≤8∧∀ i,i < (ptsG w o2).length→ptOk (ptsG w o2) i=true:=by
 cases o2 with
 | none =>
  refine ⟨Nat.le_of_ble_eq_true rfl,fun i hi=>?_⟩
  match i,hi with
  | 0,_=>rfl
  | 1,_=>rfl
  | 2,_=>rfl
  | 3,_=>rfl
 | some d =>
  refine ⟨Nat.le_of_ble_eq_true rfl,fun i hi=>?_⟩
  match i,hi with
  | 0,_=>rfl
  | 1,_=>rfl
  | 2,_=>rfl
  | 3,_=>rfl
  | 4,_=>rfl
theorem zCO {n:Nat} {l:List DSegment} {i:Nat} {s:DSegment} (e:l.getD i dG=s) (h1:0≤s.a∧s.a < n∧0≤s.b∧s.b < n∧s.a ≠ s.b∧0≤s.depth∧s.depth≤3000∧1≤s.minutes∧s.minutes≤240) (h2:∀ j,j < i→zu5 (l.getD j dG) s.a s.b=false):zu9 n l i=true:=by
 rw [zu9,zu7,zu8,e,jJ,decide_eq_true_eq,decide_eq_true_eq]
 exact ⟨h1,h2⟩
theorem zCP {c:DChart} (H:zCE c):zva (Con.con c)=true:=by
 obtain ⟨w,mt,d1,m1,d2,m2,d3,m3,o1,o2,⟨b1,b2,b3,b4,b5,b6⟩,b7,b8,h1,h2⟩:=H
 obtain ⟨p1,p2⟩:=zCN w o2
 rw [zva,show (Con.con c).points=c.points.l from zu2 _,show (Con.con c).segments=c.segments.l from zu3 _,h1,h2]
 simp only [jJ,decide_eq_true_eq]
 have hn:4≤(ptsG w o2).length:=by
  unfold ptsG
  rw [List.length_append]
  show 4≤4+_
  omega
 refine ⟨⟨⟨p1,?_⟩,p2⟩,fun i hi=>?_⟩
 ·cases o1 <;> cases o2 <;> exact Nat.le_of_ble_eq_true rfl
 ·cases o1 with
  | none =>
   cases o2 with
   | none =>
    match i,hi with
    | 0,_=>exact zCO rfl (by show (0:Int)≤0∧(0:Int) < _∧(0:Int)≤1∧(1:Int) < _∧(0:Int) ≠ 1∧0≤900+d1∧900+d1≤3000∧1≤10+m1∧10+m1≤240;omega) fun j hj=>absurd hj (Nat.not_lt_zero j)
    | 1,_=>exact zCO rfl (by show (0:Int)≤1∧(1:Int) < _∧(0:Int)≤2∧(2:Int) < _∧(1:Int) ≠ 2∧0≤800+d2∧800+d2≤3000∧1≤10+m2∧10+m2≤240;omega) fun j hj=>match j,hj with|0,_=>rfl
    | 2,_=>exact zCO rfl (by show (0:Int)≤2∧(2:Int) < _∧(0:Int)≤3∧(3:Int) < _∧(2:Int) ≠ 3∧0≤900+d3∧900+d3≤3000∧1≤5+m3∧5+m3≤240;omega) fun j hj=>match j,hj with|0,_=>rfl|1,_=>rfl
   | some d =>
    have hd:=b8 d rfl
    have hn5:((ptsG w (some d)).length:Int)=5:=rfl
    match i,hi with
    | 0,_=>exact zCO rfl (by show (0:Int)≤0∧(0:Int) < _∧(0:Int)≤1∧(1:Int) < _∧(0:Int) ≠ 1∧0≤900+d1∧900+d1≤3000∧1≤10+m1∧10+m1≤240;omega) fun j hj=>absurd hj (Nat.not_lt_zero j)
    | 1,_=>exact zCO rfl (by show (0:Int)≤1∧(1:Int) < _∧(0:Int)≤2∧(2:Int) < _∧(1:Int) ≠ 2∧0≤800+d2∧800+d2≤3000∧1≤10+m2∧10+m2≤240;omega) fun j hj=>match j,hj with|0,_=>rfl
    | 2,_=>exact zCO rfl (by show (0:Int)≤2∧(2:Int) < _∧(0:Int)≤3∧(3:Int) < _∧(2:Int) ≠ 3∧0≤900+d3∧900+d3≤3000∧1≤5+m3∧5+m3≤240;omega) fun j hj=>match j,hj with|0,_=>rfl|1,_=>rfl
    | 3,_=>exact zCO rfl (by show (0:Int)≤2∧(2:Int) < _∧(0:Int)≤4∧(4:Int) < _∧(2:Int) ≠ 4∧0≤800+d∧800+d≤3000∧(1:Int)≤15∧(15:Int)≤240;omega) fun j hj=>match j,hj with|0,_=>rfl|1,_=>rfl|2,_=>rfl
  | some q =>
   have hq:=b7 q rfl
   cases o2 with
   | none =>
    match i,hi with
    | 0,_=>exact zCO rfl (by show (0:Int)≤0∧(0:Int) < _∧(0:Int)≤1∧(1:Int) < _∧(0:Int) ≠ 1∧0≤900+d1∧900+d1≤3000∧1≤10+m1∧10+m1≤240;omega) fun j hj=>absurd hj (Nat.not_lt_zero j)
    | 1,_=>exact zCO rfl (by show (0:Int)≤1∧(1:Int) < _∧(0:Int)≤2∧(2:Int) < _∧(1:Int) ≠ 2∧0≤800+d2∧800+d2≤3000∧1≤10+m2∧10+m2≤240;omega) fun j hj=>match j,hj with|0,_=>rfl
    | 2,_=>exact zCO rfl (by show (0:Int)≤2∧(2:Int) < _∧(0:Int)≤3∧(3:Int) < _∧(2:Int) ≠ 3∧0≤900+d3∧900+d3≤3000∧1≤5+m3∧5+m3≤240;omega) fun j hj=>match j,hj with|0,_=>rfl|1,_=>rfl
    | 3,_=>exact zCO rfl (by show (0:Int)≤3∧(3:Int) < _∧(0:Int)≤1∧(1:Int) < _∧(3:Int) ≠ 1∧0≤700+q.1∧700+q.1≤3000∧1≤20+q.2∧20+q.2≤240;omega) fun j hj=>match j,hj with|0,_=>rfl|1,_=>rfl|2,_=>rfl
   | some d =>
    have hd:=b8 d rfl
    have hn5:((ptsG w (some d)).length:Int)=5:=rfl
    match i,hi with
    | 0,_=>exact zCO rfl (by show (0:Int)≤0∧(0:Int) < _∧(0:Int)≤1∧(1:Int) < _∧(0:Int) ≠ 1∧0≤900+d1∧900+d1≤3000∧1≤10+m1∧10+m1≤240;omega) fun j hj=>absurd hj (Nat.not_lt_zero j)
    | 1,_=>exact zCO rfl (by show (0:Int)≤1∧(1:Int) < _∧(0:Int)≤2∧(2:Int) < _∧(1:Int) ≠ 2∧0≤800+d2∧800+d2≤3000∧1≤10+m2∧10+m2≤240;omega) fun j hj=>match j,hj with|0,_=>rfl
    | 2,_=>exact zCO rfl (by show (0:Int)≤2∧(2:Int) < _∧(0:Int)≤3∧(3:Int) < _∧(2:Int) ≠ 3∧0≤900+d3∧900+d3≤3000∧1≤5+m3∧5+m3≤240;omega) fun j hj=>match j,hj with|0,_=>rfl|1,_=>rfl
    | 3,_=>exact zCO rfl (by show (0:Int)≤3∧(3:Int) < _∧(0:Int)≤1∧(1:Int) < _∧(3:Int) ≠ 1∧0≤700+q.1∧700+q.1≤3000∧1≤20+q.2∧20+q.2≤240;omega) fun j hj=>match j,hj with|0,_=>rfl|1,_=>rfl|2,_=>rfl
    | 4,_=>exact zCO rfl (by show (0:Int)≤2∧(2:Int) < _∧(0:Int)≤4∧(4:Int) < _∧(2:Int) ≠ 4∧0≤800+d∧800+d≤3000∧(1:Int)≤15∧(15:Int)≤240;omega) fun j hj=>match j,hj with|0,_=>rfl|1,_=>rfl|2,_=>rfl|3,_=>rfl
theorem zCQ:∀ i,i < 3→zuN (zCF i)=true∧∀ j,j < 3→(zCF i=zCF j ↔ i=j):=by
 intro i hi
 match i,hi with
 | 0,_=>exact ⟨rfl,fun j hj=>match j,hj with|0,_=>by decide|1,_=>by decide|2,_=>by decide⟩
 | 1,_=>exact ⟨rfl,fun j hj=>match j,hj with|0,_=>by decide|1,_=>by decide|2,_=>by decide⟩
 | 2,_=>exact ⟨rfl,fun j hj=>match j,hj with|0,_=>by decide|1,_=>by decide|2,_=>by decide⟩
theorem zCR {k:Int} (hk:k≤4) {l:List DShip} (H:zCH k l):zvk l=true:=by
 obtain ⟨⟨h1,h2⟩,h3⟩:=H
 rw [zvk,jJ,decide_eq_true_eq,decide_eq_true_eq]
 refine ⟨by omega,fun i hi=>?_⟩
 obtain ⟨s1,s2,s3,s4,s5⟩:=h3 i hi
 rw [shOk,jJ,decide_eq_true_eq,zvj,s1]
 refine ⟨?_,?_⟩
 ·rw [(zCQ i (by omega)).1]
  simp only [Bool.true_and,In,jJ,decide_eq_true_eq]
  omega
 ·rw [zvi,zuP]
  have hf:l.findIdx? (fun p=>decide (p.name=zCF i))=some i:=by
   rw [List.findIdx?_eq_some_iff_getElem]
   refine ⟨hi,?_,fun j hj=>?_⟩
   ·have e:l.getD i dH=l[i]:=by rw [List.getD_eq_getElem?_getD,List.getElem?_eq_getElem hi];rfl
    rw [e] at s1
    exact decide_eq_true s1
   ·have hjl:j < l.length:=by omega
    have e:l.getD j dH=l[j]:=by rw [List.getD_eq_getElem?_getD,List.getElem?_eq_getElem hjl];rfl
    have t1:=(h3 j hjl).1
    rw [e] at t1
    rw [decide_eq_true_eq,t1]
    intro h9
    have:=((zCQ j (by omega)).2 i (by omega)).1 h9
    omega
  rw [hf]
theorem zCS {x:DHarbour} (H:zCJ x):zvo (Con.con x)=true:=by
 obtain ⟨h1,⟨h2,h3⟩,⟨⟨h4,h5⟩,h6,h7⟩,h8,h9,h10,⟨c1,c2,c3,c4,c5⟩⟩:=H
 have e1:zuS (Con.con x.forecast.tide)=true:=by
  rw [zuS,show (Con.con x.forecast.tide).parts=x.forecast.tide.parts.l from List.map_id _,show (Con.con x.forecast.tide).mean=x.forecast.tide.mean from rfl]
  simp only [In,jJ,decide_eq_true_eq,List.all_eq_true]
  exact ⟨⟨by omega,by omega⟩,fun p hp=>zCL (h3 p hp)⟩
 have e2:zuY (Con.con x.forecast)=true:=by
  rw [zuY,show (Con.con x.forecast).tide=Con.con x.forecast.tide from rfl,e1,show (Con.con x.forecast).surges=x.forecast.surges.l from List.map_id _]
  simp only [In,Bool.true_and,jJ,decide_eq_true_eq]
  exact ⟨⟨by omega,h6⟩,h7⟩
 have e3:zvn (Con.con x.crew)=true:=by
  rw [zvn,zvm,show (Con.con x.crew).moves=x.crew.moves.l from List.map_id _]
  show (In x.crew.tugs 0 12 && In x.crew.pilots 0 12 && (In x.crew.rest 0 2880 && _))=true
  simp only [In,jJ,decide_eq_true_eq,List.all_eq_true]
  exact ⟨⟨by omega,by omega⟩,by omega,c4,fun y hy=>by have:=c5 y hy;omega⟩
 rw [zvo,show (Con.con x).forecast=Con.con x.forecast from rfl,e2,show (Con.con x).chart=Con.con x.chart from rfl,zCP h8,show (Con.con x).fleet=x.fleet.l from List.map_id _,zCR (by decide) h9,show (Con.con x).crew=Con.con x.crew from rfl,e3]
 show (true && zvl x.regime && true)=true
 rw [zvl]
 simp only [In,Bool.true_and,Bool.and_true,jJ,decide_eq_true_eq]
 omega
theorem zCT {x:DHarbour} {a:DCall} (H:zCJ x) (A:zCK x a):zvA (Con.con x) a=true:=by
 have hp:=zCM H.chart
 obtain ⟨a1,a2,a3,a4⟩:=A
 rw [zvA,show (Con.con x).fleet=x.fleet.l from List.map_id _,show (Con.con x).chart.points=x.chart.points.l from zu2 _,decide_eq_true_eq]
 omega
theorem zCU {x:DHarbour} {a:DCall} (H:zCJ x) (A:zCK x a):zvB (Con.con x) a=true:=by
 rw [zvB,zCS H,zCT H A];rfl
theorem zCV (d1 m1 d2 m2 d3 m3:Int) (mt:Bool) (o1:Option (Int × Int)) (o2:Option Int):(zxV (zCD d1 m1 d2 m2 d3 m3 mt o1 o2) 3 8 [0] []).isEmpty=false:=by
 cases o1 <;> cases o2 <;> rfl
theorem zCW (d1 m1 d2 m2 d3 m3:Int) (mt:Bool) (o1:Option (Int × Int)) (o2:Option Int):(zxV (zCD d1 m1 d2 m2 d3 m3 mt o1 o2) 0 8 [3] []).isEmpty=false:=by
 cases o1 <;> cases o2 <;> rfl
theorem zCX {m:List Int→Int}:∀ {l:List (List Int)} {r:List Int},∃ x,l.foldl (zyc m) (some r)=some x
 | [],r=>⟨r,rfl⟩
 | y :: l,r=>by
  rw [List.foldl_cons,zyc]
  split
  ·exact zCX
  ·exact zCX
theorem zCY {x:DHarbour} {a:DCall} (H:zCJ x) (A:zCK x a):∃ r,zyd (Con.con x.chart) a.src a.dst=some r:=by
 have h4:=zCM H.chart
 have hC:=zCP H.chart
 have hne:(zx8 (Con.con x.chart) a.src a.dst).isEmpty=false:=by
  have hrt:rtIn (Con.con x.chart) a.src a.dst=true:=by
   rw [rtIn,hC,Bool.true_and,jJ,decide_eq_true_eq,decide_eq_true_eq,zwZ]
   rcases A.2.1 with ⟨h1,h2⟩|⟨h1,h2⟩ <;> omega
  rw [zx8,if_pos hrt,zvJ]
  obtain ⟨w,mt,d1,m1,d2,m2,d3,m3,o1,o2,_,_,_,_,e⟩:=H.chart
  rw [e]
  rcases A.2.1 with ⟨h1,h2⟩|⟨h1,h2⟩
  ·rw [h1,h2];exact zCV ..
  ·rw [h1,h2];exact zCW ..
 rw [zyd]
 cases hl:zx8 (Con.con x.chart) a.src a.dst with
 | nil=>rw [hl] at hne;cases hne
 | cons y l=>exact zCX
end Go.Proofs.Ytdeflkhkfmjckaa
