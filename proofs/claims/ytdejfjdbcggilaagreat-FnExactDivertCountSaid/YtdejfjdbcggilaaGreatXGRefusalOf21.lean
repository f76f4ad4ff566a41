/- What functions of the given program compute, as contracts. -/
import Derived.Test.YtdejfjdbcggilaaGreatS20
set_option linter.unusedVariables false
set_option linter.unusedSimpArgs false
set_option maxRecDepth 4000
open Nat renaming reduceAdd → jq, reduceMul → jj, reduceBEq → jy, reduceLeDiff → jv, reduceLT → jk, reduceEqDiff → jx
open Bool renaming or_eq_false_iff → jp, or_eq_true → jQ, and_eq_true → jJ
open Int renaming toNat_natCast → jW, natCast_nonneg → jY
open Go.Proofs.Tryz renaming prog → jV
namespace Go.Proofs.YtdejfjdbcggilaaGreat
open Go Go.SL
set_option maxHeartbeats 1000000
def zLJ (x:PHarbour) (a:List DCall):Bool:=(zKf x a).2.2
def zLK (x:PHarbour) (a:List DCall) (l:List Int):Bool:=zAP x a && decide (Sel a.length l) && zLJ x (zJm a l)
theorem zLL (x:DHarbour) (a:Sl DCall) (h:Hp) (hx:Enc.ok h x) (ha:a.Ok h):Ct jV 20 [x.v,a.val] h fun v h'=>v=.bool (zLJ (Con.con x) (Con.con a))∧h'=h:=by
 refine Ct.forget ?_
 refine zdn (fun A W=>by simp) Tryz.func20 rfl rfl (by simp) fun W0=>?_
 refine Wk ?_
 refine zkr (zK3 x a _ hx ha) rfl ?_
 rintro v h1 le1 ⟨s,rfl,es,oks,ms⟩
 refine Evs ?_
 exact Wk0
set_option maxRecDepth 30000 in
theorem zLM (x:DHarbour) (a:Sl DCall) (l:Sl Int) (h:Hp) (hx:Enc.ok h x) (ha:a.Ok h) (hl:l.Ok h) (hz:Sz.sz (Con.con l)≤1048576):Ct jV 25 [x.v,a.val,l.val] h fun v h'=>v=.bool (zLK (Con.con x) (Con.con a) (Con.con l))∧h'=h:=by
 have hla:=ha.max
 have hll:=hl.max
 have hcl:Con.con l=l.l:=con_ints
 have hca:Con.con a=a.l:=zAQ a
 refine Ct.forget ?_
 rw [zLK,hca,hcl]
 refine zdn (fun A W=>by simp) Tryz.func25 rfl rfl (by simp) fun W0=>?_
 refine Wk ?_
 cases hc:zAP (Con.con x) a.l with
 | false =>
  refine zyW rfl ?_
  refine U_t [0,1] rfl ?_
  simp only [go_sem,jq,jj,jy,jv,jk,jx,hc]
  refine U_1 2 0 [] rfl rfl ?_
  simp only [go_sem,jq,jj,jy,jv,jk,jx,hc]
  refine zhF (fun _=>zAS x a _ hx ha) ?_
  rw [zAQ]
  simp only [go_sem,jq,jj,jy,jv,jk,jx,hc]
  refine U_t [3,4,5] rfl ?_
  simp only [go_sem,jq,jj,jy,jv,jk,jx,hc]
  refine U_1 6 0 [] rfl rfl ?_
  simp only [go_sem,jq,jj,jy,jv,jk,jx,hc]
  refine zhF (V:=.bool false) (fun e=>by cases e) ?_
  simp only [go_sem,jq,jj,jy,jv,jk,jx,hc]
  refine U_t [7,8,9,10,11] rfl ?_
  simp only [go_sem,jq,jj,jy,jv,jk,jx,hc]
  refine U_1 12 0 [9] rfl rfl ?_
  simp only [go_sem,jq,jj,jy,jv,jk,jx,hc]
  refine zhF (V:=.slice none 0 0) (fun e=>by cases e) ?_
  simp only [go_sem,jq,jj,jy,jv,jk,jx,hc]
  refine U_1 13 0 [] rfl rfl ?_
  simp only [go_sem,jq,jj,jy,jv,jk,jx,hc]
  refine zhF (V:=.bool false) (fun e=>by cases e) ?_
  simp only [go_sem,jq,jj,jy,jv,jk,jx,hc]
  refine U_t [14,15] rfl ?_
  simp only [go_sem,jq,jj,jy,jv,jk,jx,hc]
  refine U_d ?_
  exact Wk0
 | true =>
  cases hs:decide (Sel a.l.length l.l) with
  | false =>
   refine zyW rfl ?_
   refine U_t [0,1] rfl ?_
   simp only [go_sem,jq,jj,jy,jv,jk,jx,hc,hs]
   refine U_1 2 0 [] rfl rfl ?_
   simp only [go_sem,jq,jj,jy,jv,jk,jx,hc,hs]
   refine zhF (fun _=>zAS x a _ hx ha) ?_
   rw [zAQ]
   simp only [go_sem,jq,jj,jy,jv,jk,jx,hc]
   refine U_t [3,4,5] rfl ?_
   simp only [go_sem,jq,jj,jy,jv,jk,jx,hc,hs]
   refine U_1 6 0 [] rfl rfl ?_
   simp only [go_sem,jq,jj,jy,jv,jk,jx,hc,hs]
   refine zhF (fun _=>zJl a l _ ha hl) ?_
   simp only [go_sem,jq,jj,jy,jv,jk,jx,hc,hs]
   refine U_t [7,8,9,10,11] rfl ?_
   simp only [go_sem,jq,jj,jy,jv,jk,jx,hc,hs]
   refine U_1 12 0 [9] rfl rfl ?_
   simp only [go_sem,jq,jj,jy,jv,jk,jx,hc,hs]
   refine zhF (V:=.slice none 0 0) (fun e=>by cases e) ?_
   simp only [go_sem,jq,jj,jy,jv,jk,jx,hc,hs]
   refine U_1 13 0 [] rfl rfl ?_
   simp only [go_sem,jq,jj,jy,jv,jk,jx,hc,hs]
   refine zhF (V:=.bool false) (fun e=>by cases e) ?_
   simp only [go_sem,jq,jj,jy,jv,jk,jx,hc,hs]
   refine U_t [14,15] rfl ?_
   simp only [go_sem,jq,jj,jy,jv,jk,jx,hc,hs]
   refine U_d ?_
   exact Wk0
  | true =>
   refine zyW rfl ?_
   refine U_t [0,1] rfl ?_
   simp only [go_sem,jq,jj,jy,jv,jk,jx,hc,hs]
   refine U_1 2 0 [] rfl rfl ?_
   simp only [go_sem,jq,jj,jy,jv,jk,jx,hc,hs]
   refine zhF (fun _=>zAS x a _ hx ha) ?_
   rw [zAQ]
   simp only [go_sem,jq,jj,jy,jv,jk,jx,hc]
   refine U_t [3,4,5] rfl ?_
   simp only [go_sem,jq,jj,jy,jv,jk,jx,hc,hs]
   refine U_1 6 0 [] rfl rfl ?_
   simp only [go_sem,jq,jj,jy,jv,jk,jx,hc,hs]
   refine zhF (fun _=>zJl a l _ ha hl) ?_
   simp only [go_sem,jq,jj,jy,jv,jk,jx,hc,hs]
   refine U_t [7,8,9,10,11] rfl ?_
   simp only [go_sem,jq,jj,jy,jv,jk,jx,hc,hs]
   refine U_1 12 0 [9] rfl rfl ?_
   simp only [go_sem,jq,jj,jy,jv,jk,jx,hc,hs]
   refine zkr (zJn a l _ ha hl hz) rfl ?_
   rintro v h1 le1 ⟨s,rfl,es,oks,ms⟩
   simp only [go_sem,jq,jj,jy,jv,jk,jx,hc,hs]
   refine U_1 13 0 [] rfl rfl ?_
   simp only [go_sem,jq,jj,jy,jv,jk,jx,hc,hs]
   refine zhF (fun _=>zLL x s _ (Enc.mono le1 hx) oks) ?_
   rw [es,hca,hcl]
   simp only [go_sem,jq,jj,jy,jv,jk,jx,hc,hs]
   refine U_t [14,15] rfl ?_
   simp only [go_sem,jq,jj,jy,jv,jk,jx,hc,hs]
   refine U_d ?_
   exact Wk0
theorem zLN {α:Type} {l:List α} {i:Nat} {d:α} (h:i < l.length):l.getD i d=l[i]:=by simp [List.getD_eq_getElem?_getD,h]
theorem zLO {l:List Nat} {k:Nat} (h:k < l.length) (h2:k < (zs l).length):(zs l)[k]=((l[k]:Nat):Int):=by simp [zs]
theorem zLP {a b:List Nat} {k:Nat} (ha:k < a.length) (hb:k < b.length):lx (a.drop k) (b.drop k)=if a[k]=b[k] then lx (a.drop (k+1)) (b.drop (k+1)) else decide (a[k] < b[k]):=by
 rw [List.drop_eq_getElem_cons ha,List.drop_eq_getElem_cons hb,lx]
theorem zLQ {a b:List Nat}:zs (a ++ b)=zs a ++ zs b:=by simp [zs]
theorem zLR {l:List Nat} (h:∀ x ∈ l,x < 1000):∀ y ∈ zs l,I64 y:=fun y hy=>by
 obtain ⟨z,hz,rfl⟩:=List.mem_map.1 hy
 have:=h z hz
 show I64 _;unfold I64;omega
theorem zLS (a b:Sl Int) (p q:List Nat) (h:Hp) (ha:a.Ok h) (hb:b.Ok h) (ep:a.l=zs p) (eq:b.l=zs q) (hl:p.length=q.length):Ct jV 131 [a.val,b.val] h fun v h'=>v=.bool (lx p q)∧h'=h:=by
 have hla:=ha.max
 have hal:a.l.length=p.length:=by rw [ep,zHW]
 have hbl:b.l.length=q.length:=by rw [eq,zHW]
 refine zdn (fun A W=>by simp) Tryz.func131 rfl rfl (by simp) fun W0=>?_
 refine Wk ?_
 refine zde (ι:=Nat) (fun k=>⟨[(1,true,.c (.v b.val)),(4,true,.c (.v (.bool false))),(7,true,.c (.v a.val)),(8,true,.c (.v (.int .i64 a.l.length))),(9,true,.c (.v (.int .i64 k)))],[],h,0⟩) (fun k=>k≤a.l.length∧lx p q=lx (p.drop k) (q.drop k)) (fun k=>a.l.length - k) 0 ⟨Nat.zero_le _,rfl⟩ ?_ ?_
 ·refine Evs ?_
  exact Gk
 rintro k ⟨hk,hx⟩
 refine Wk ?_
 refine zc9 rfl (fun hd=>?_) (fun hd=>?_)
 ·have hlt:=zjH hd
  have hltb:k < b.l.length:=by omega
  have hltbi:(k:Int) < b.l.length:=by omega
  have hkp:k < p.length:=by omega
  have hkq:k < q.length:=by omega
  have e1:a.l[k]=((p[k]:Nat):Int):=by simp only [ep];exact zLO hkp _
  have e2:b.l[k]=((q[k]:Nat):Int):=by simp only [eq];exact zLO hkq _
  rw [zLP hkp hkq] at hx
  repeat' first|refine Wa ?_|(simp only [go_sem,jq,jj,jy,jv,jk,jx,zkR ha hlt,ha.some hlt,hlt,zkR hb hltb,hb.some hltb,hltb,hltbi,e1,e2,jW,jY,implies_true,true_and,and_true,and_self];try rfl)|refine Wb ?_|fail
  refine zc9 rfl (fun hq=>?_) (fun hq=>?_)
  ·have hq:=zjD hq
   have hne:¬ p[k]=q[k]:=fun e=>hq (by rw [e])
   rw [if_neg hne] at hx
   repeat' first|refine Wa ?_|(simp only [go_sem,jq,jj,jy,jv,jk,jx,zkR ha hlt,ha.some hlt,hlt,zkR hb hltb,hb.some hltb,hltb,hltbi,e1,e2,jW,jY,implies_true,true_and,and_true,and_self];try rfl)|refine Wb ?_|fail
   rw [hx]
   try (congr 1;rw [decide_eq_decide];omega)
  ·have hq:=zjE hq
   have he:p[k]=q[k]:=by omega
   rw [if_pos he] at hx
   refine Wk ?_
   exact ⟨k+1,⟨hlt,hx⟩,by omega,zjB (zjA hlt (by omega))⟩
 ·have hge:=zjI hd
  have:k=a.l.length:=by omega
  rw [List.drop_of_length_le (by omega),List.drop_of_length_le (by omega)] at hx
  refine Wk ?_
  rw [hx];rfl
def bitN (bits k:Nat):List Int:=zs ((List.range k).filter bits.testBit)
theorem zLT {bits k:Nat}:(bitN bits k).length≤k:=by
 rw [bitN,zHW]
 have:=List.length_filter_le bits.testBit (List.range k)
 rwa [List.length_range] at this
theorem zLU {bits k:Nat}:bitN bits (k+1)=if bits.testBit k=true then bitN bits k ++ [(k:Int)] else bitN bits k:=by
 rw [bitN,bitN,List.range_succ,List.filter_append]
 cases h:bits.testBit k <;> simp [h,zs]
theorem zLV (n bits:Nat) (h:Hp) (hn:n≤6) (hb:bits < 2 ^ n):Ct jV 130 [.int .i64 n,.int .i64 bits] h fun v h'=>∃ s:Sl Int,v=s.val∧s.l=zs (zLj n bits)∧s.Ok h'∧Mine h h' s:=by
 have hb6:bits < 2 ^ 63:=Nat.lt_of_lt_of_le hb (Nat.pow_le_pow_right (by decide) (by omega))
 refine zdn (fun A W=>by simp) Tryz.func130 rfl rfl (by simp) fun W0=>?_
 refine Wk ?_
 refine zm1 (ι:=Nat) (fun k=>⟨[(0,true,.c (.v (.int .i64 n))),(1,true,.c (.v (.int .i64 bits))),(4,true,.c (.v (.slice none 0 0))),(5,true,.c (.s 0)),(6,true,.c (.v (.int .i64 k)))],[(0,.row 3 1 (bitN bits k).length ((bitN bits k).flatMap Enc.enc))],h,1⟩) (fun k=>k≤n) (fun k=>n - k) 0 (Nat.zero_le _) [0] ?_ ?_
 ·refine Evs ?_
  exact Gk
 intro k hk
 have hbl:=zLT (bits:=bits) (k:=k)
 refine Wk ?_
 refine zc9 rfl (fun hd=>?_) (fun hd=>?_)
 ·have hlt:k < n:=zjH hd
  have hsh:=zLG (b:=bits) (k:=k) (by omega)
  have hbt:zaE .and .i64 ((bits / 2 ^ k:Nat):Int) 1=(if bits.testBit k=true then 1 else 0):=zLH (b:=bits) (k:=k) hb6
  have hnx:=zLU (bits:=bits) (k:=k)
  cases ht:bits.testBit k with
  | true =>
   rw [ht,if_pos rfl] at hbt hnx
   repeat' first|refine Wa ?_|(simp only [go_sem,jq,jj,jy,jv,jk,jx,jW,jY,hsh,hbt];try rfl)|refine Wb ?_|fail
   refine zc9 rfl (fun hq=>?_) (fun hq=>?_)
   case refine_2=>simp at hq
   refine Wk ?_
   refine ⟨by simp only [maxLen];omega,by omega,?_⟩
   refine Wk ?_
   refine ⟨k+1,[2],hlt,by omega,?_⟩
   refine Evs ?_
   rw [hnx,List.flatMap_append,List.length_append]
   exact Gi (zjA (n:=64) (k:=k) (by omega) (by omega))
  | false =>
   rw [ht,if_neg Bool.false_ne_true] at hbt hnx
   repeat' first|refine Wa ?_|(simp only [go_sem,jq,jj,jy,jv,jk,jx,jW,jY,hsh,hbt];try rfl)|refine Wb ?_|fail
   refine zc9 rfl (fun hq=>?_) (fun hq=>?_)
   ·simp at hq
   refine Wk ?_
   refine ⟨k+1,[0],hlt,by omega,?_⟩
   refine Evs ?_
   rw [hnx]
   exact Gi (zjA (n:=64) (k:=k) (by omega) (by omega))
 ·have hge:=zjI hd
  obtain rfl:k=n:=by omega
  refine zc6 ?_
  refine Evs ?_
  refine zl5 0 (bitN bits k) rfl rfl rfl rfl (by decide) (zLR fun z hz=>by have:=List.mem_range.1 (List.mem_filter.1 hz).1;omega) h (Hp.le_refl _) (Mines.flat (fun _=>rfl) (fun _=>trivial)) fun s h' e1 e2 e3 e4=>?_
  refine Wk ?_
  exact ⟨s,rfl,e1,e2,e4⟩
def selD (L:List (Sl DOption)) (w:List Nat):List (Sl DOption):=w.map fun k=>L.getD k ⟨none,0,[]⟩
theorem zLW {L:List (Sl DOption)} {w:List Nat}:(selD L w).length=w.length:=List.length_map ..
theorem zLX {L:List (Sl DOption)} {w:List Nat} (hw:∀ k ∈ w,k < L.length):∀ l ∈ selD L w,l ∈ L:=fun l hl=>by
 obtain ⟨k,hk,rfl⟩:=List.mem_map.1 hl
 rw [zLN (hw k hk)];exact List.getElem_mem _
theorem zLY {L s:Sl (Sl DOption)} {w:List Nat} (e:s.l=selD L.l w) (hw:∀ k ∈ w,k < L.l.length):LL s=w.map fun k=>(LL L).getD k []:=by
 rw [LL,e,selD,List.map_map]
 refine List.map_congr_left fun k hk=>?_
 simp only [Function.comp]
 rw [zLN (hw k hk),zLN (by rw [LL,List.length_map];exact hw k hk)]
 simp [LL]
set_option maxRecDepth 30000 in
theorem zLZ (x:DHarbour) (L:Sl (Sl DOption)) (l:Sl Int) (w:List Nat) (h:Hp) (hx:Enc.ok h x) (hL:L.Ok h) (hl:l.Ok h) (el:l.l=zs w) (hw:∀ k ∈ w,k < L.l.length) (hw6:w.length≤6) (hLn:∀ l ∈ L.l,l.l.length≤90) (hLg:∀ l ∈ L.l,∀ y ∈ l.l,0≤y.cost∧y.cost≤2880∧Sz.sz (Con.con y)≤8) (hC:zz9 (Con.con x.chart)=true) (hR:zAm x.regime=true) :
  Ct jV 132 [x.v,L.val,l.val] h fun v h'=>v=.bool (zKe (zKc (Con.con x) (w.map fun k=>(LL L).getD k []))).2.2∧h'=h:=by
 have hll:l.l.length=w.length:=by rw [el,zHW]
 have hsl:=zLW (L:=L.l) (w:=w)
 refine Ct.forget ?_
 refine zdn (fun A W=>by simp) Tryz.func132 rfl rfl (by simp) fun W0=>?_
 refine Wk ?_
 refine zm1 (ι:=Nat) (fun k=>⟨[(1,true,.c (.v L.val)),(3,true,.c (.p 0 0)),(6,true,.c (.v (.bool false))),(7,true,.c (.s 1)),(14,true,.c (.v l.val)),(15,true,.c (.v (.int .i64 l.l.length))),(16,true,.c (.v (.int .i64 k)))],[(0,.box 58 [.v (.int .i64 x.forecast.tide.mean),.v x.forecast.tide.parts.val,.v x.forecast.surges.val,.v x.chart.points.val,.v x.chart.segments.val,.v x.fleet.val,.v (.int .i64 x.regime.gap),.v (.bool x.regime.noMeet),.v (.int .i64 x.crew.tugs),.v (.int .i64 x.crew.pilots),.v (.int .i64 x.crew.rest),.v x.crew.moves.val]),(1,.row 80 1 k (((selD L.l w).take k).flatMap Enc.enc))],h,2⟩) (fun k=>k≤l.l.length) (fun k=>l.l.length - k) 0 (Nat.zero_le _) [0,1] ?_ ?_
 ·refine Evs ?_
  exact Gk
 intro k hk
 refine Wk ?_
 refine zc9 rfl (fun hd=>?_) (fun hd=>?_)
 ·have hlt:=zjH hd
  have hkw:k < w.length:=by omega
  have hwk:=hw _ (List.getElem_mem hkw)
  have hwki:(w[k]:Int) < L.l.length:=by omega
  have e1:l.l[k]=((w[k]:Nat):Int):=by simp only [el];exact zLO hkw _
  have htk:(selD L.l w).take (k+1)=(selD L.l w).take k ++ [L.l[w[k]]]:=by
   rw [List.take_succ_eq_append_getElem (by omega)]
   simp [selD,hwk]
  repeat' first|refine Wa ?_|(simp only [go_sem,jq,jj,jy,jv,jk,jx,zkR hl hlt,hl.some hlt,hlt,e1,zkQ hL hwk,hL.some hwk,hwk,hwki,jW,jY,implies_true,true_and,and_true,and_self];try rfl)|refine Wb ?_|fail
  refine ⟨by simp only [maxLen];omega,by omega,?_⟩
  refine Wk ?_
  refine ⟨k+1,[0,3],hlt,by omega,?_⟩
  refine Evs ?_
  rw [htk,List.flatMap_append]
  exact Gi (zjA hlt (by omega))
 ·have hge:=zjI hd
  have hke:k=(selD L.l w).length:=by omega
  rw [hke,List.take_length]
  refine zc6 ?_
  refine Evs ?_
  refine zjQ 1 (selD L.l w) rfl rfl rfl rfl (by decide) (fun y hy=>hL.2.2.2.1 y (zLX hw y hy)) fun s h' e1 e2 e3 _ _=>?_
  have hm:=zLX hw
  refine Wk ?_
  refine zkr (zLg x s _ (Enc.mono e3 hx) e2 (by rw [e1,hsl];exact hw6) (fun l hl=>hLn l (hm l (by rw [← e1];exact hl))) (fun l hl=>hLg l (hm l (by rw [← e1];exact hl))) (fun _=>⟨hC,hR⟩)) rfl ?_
  rintro v h2 le2 ⟨q,rfl,eq,okq,mq⟩
  refine Wk ?_
  rw [zLY e1 hw]
noncomputable def QS (x:PHarbour) (a:List DCall) (w:List Nat):Bool:=(zKe (zKc x (w.map fun k=>(zJu x a).getD k []))).2.2
set_option maxRecDepth 30000 in
theorem zL0 (x:DHarbour) (a:Sl DCall) (h:Hp) (hx:Enc.ok h x) (ha:a.Ok h) (hc:zAP (Con.con x) a.l=true):Ct jV 81 [x.v,a.val] h fun v h'=>∃ s:Sl Bool,v=s.val∧s.l=(List.range (2 ^ a.l.length)).map (fun b=>QS (Con.con x) a.l (zLj a.l.length b))∧s.Ok h':=by
 have h6:=zJy hc
 obtain ⟨hR,hC⟩:=zKq hc
 have hR:zAm x.regime=true:=hR
 have hC:zz9 (Con.con x.chart)=true:=hC
 have hpw:2 ^ a.l.length≤2 ^ 6:=Nat.pow_le_pow_right (by decide) h6
 have hsh:=zHw (j:=a.l.length) (by omega)
 obtain ⟨QT,hQT⟩:∃ QT:Nat→List Bool,QT=fun k=>(List.range k).map (fun b=>QS (Con.con x) a.l (zLj a.l.length b)):=⟨_,rfl⟩
 refine zdn (fun A W=>by simp) Tryz.func81 rfl rfl (by simp) fun W0=>?_
 refine Wk ?_
 refine zkr (zJv x a _ hx ha (by omega)) rfl ?_
 rintro v h1 le1 ⟨L,rfl,eL,okL,mL⟩
 obtain ⟨g1,g2,g3⟩:=zK2 eL
 have hLL:LL L=zJu (Con.con x) a.l:=eL
 have hlL:L.l.length=a.l.length:=by have:=congrArg List.length eL;rwa [List.length_map,zJx] at this
 refine Wk ?_
 refine zm1 (ι:=Nat × Hp) (fun i=>⟨[(1,true,.c (.v a.val)),(2,true,.c (.p 0 0)),(4,true,.c (.v (.slice none 0 0))),(5,true,.c (.v L.val)),(6,true,.c (.s 1)),(7,true,.c (.v (.int .i64 i.1)))],[(0,.box 58 [.v (.int .i64 x.forecast.tide.mean),.v x.forecast.tide.parts.val,.v x.forecast.surges.val,.v x.chart.points.val,.v x.chart.segments.val,.v x.fleet.val,.v (.int .i64 x.regime.gap),.v (.bool x.regime.noMeet),.v (.int .i64 x.crew.tugs),.v (.int .i64 x.crew.pilots),.v (.int .i64 x.crew.rest),.v x.crew.moves.val]),(1,.row 4 1 i.1 ((QT i.1).flatMap Enc.enc))],i.2,2⟩) (fun i=>i.1≤2 ^ a.l.length∧h.le i.2∧h1.le i.2) (fun i=>2 ^ a.l.length - i.1) (0,h1) ⟨Nat.zero_le _,le1,Hp.le_refl _⟩ [0,1] ?_ ?_
 ·refine Evs ?_
  rw [hQT]
  exact Gk
 rintro ⟨k,hk⟩ ⟨hkl,lek,lekL⟩
 simp only at hkl lek lekL
 repeat' first|refine Wa ?_|(simp only [go_sem,jq,jj,jy,jv,jk,jx,hsh];try rfl)|refine Wb ?_|fail
 refine zc9 rfl (fun hd=>?_) (fun hd=>?_)
 ·have hlt:k < 2 ^ a.l.length:=by have:=of_decide_eq_true hd;omega
  repeat' first|refine Wa ?_|(simp only [go_sem,jq,jj,jy,jv,jk,jx,hsh];try rfl)|refine Wb ?_|fail
  refine zyW rfl ?_
  refine U_t [0,1,2,3,5,4] rfl ?_
  simp only [go_sem,jq,jj,jy,jv,jk,jx,hsh]
  refine U_1 6 0 [1] rfl rfl ?_
  simp only [go_sem,jq,jj,jy,jv,jk,jx,hsh]
  refine zkr (zLV a.l.length k _ h6 hlt) rfl ?_
  rintro v h2 le2 ⟨b,rfl,eb,okb,mb⟩
  try simp only [go_sem,jq,jj,jy,jv,jk,jx,hsh]
  refine U_1 7 0 [] rfl rfl ?_
  simp only [go_sem,jq,jj,jy,jv,jk,jx,hsh]
  refine zhF (fun _=>zLZ x L b (zLj a.l.length k) _ (Enc.mono (Hp.le_trans lek le2) hx) ((okL.mono lekL).mono le2) okb eb (fun j hj=>by rw [hlL];exact zLk.2 j hj) (Nat.le_trans (zLA zLk) h6) g1 g3 hC hR) ?_
  rw [hLL]
  try simp only [go_sem,jq,jj,jy,jv,jk,jx,hsh]
  refine U_1 8 0 [] rfl rfl ?_
  simp only [go_sem,jq,jj,jy,jv,jk,jx,hsh]
  refine U_1 9 0 [] rfl rfl ?_
  simp only [go_sem,jq,jj,jy,jv,jk,jx,hsh]
  refine ⟨by simp only [maxLen];omega,by omega,?_⟩
  try simp only [go_sem,jq,jj,jy,jv,jk,jx,hsh]
  refine U_t [10] rfl ?_
  simp only [go_sem,jq,jj,jy,jv,jk,jx,hsh]
  refine U_d ?_
  repeat' first|refine Wa ?_|(simp only [go_sem,jq,jj,jy,jv,jk,jx,hsh];try rfl)|refine Wb ?_|fail
  refine ⟨(k+1,h2),[0,3],⟨hlt,Hp.le_trans lek le2,Hp.le_trans lekL le2⟩,by simp only;omega,?_⟩
  refine Evs ?_
  rw [show QT (k+1)=QT k ++ [QS (Con.con x) a.l (zLj a.l.length k)] from by simp only [hQT,List.range_succ,List.map_append,List.map_cons,List.map_nil],List.flatMap_append]
  have lle:=Hp.le_trans lek le2
  exact Gi (zjA (n:=64) (k:=k) (by omega) (by omega))
 ·have hge:2 ^ a.l.length≤k:=by have:=of_decide_eq_false hd;omega
  have hke:k=2 ^ a.l.length:=by omega
  refine zc6 ?_
  refine Evs ?_
  refine zjQ 1 (QT k) rfl rfl (by rw [hQT,List.length_map,List.length_range]) rfl (by decide) (fun _ _=>trivial) fun s h' e1 e2 e3 _ _=>?_
  refine Wk ?_
  exact ⟨s,rfl,by rw [e1,hQT,hke],e2⟩
theorem zL1 {n k:Nat} (hk:k < 2 ^ n):(zLz n).take (k+1)=(zLz n).take k ++ [zLj n k]:=by
 rw [List.take_succ_eq_append_getElem (by rw [zLz,List.length_map,List.length_range];exact hk)]
 simp [zLz]
theorem zL2 {long:Bool} {Q:List Nat→Bool} {acc:Option (List Nat)} {s:List Nat} (h:¬ Q s=true):zLs long Q acc s=acc:=by unfold zLs;rw [if_neg h]
theorem zL3 {long:Bool} {Q:List Nat→Bool} {s:List Nat} (h:Q s=true):zLs long Q none s=some s:=by unfold zLs;rw [if_pos h]
theorem zL4 {long:Bool} {Q:List Nat→Bool} {s b:List Nat} (h:Q s=true):zLs long Q (some b) s=if bet long s b=true then some s else some b:=by unfold zLs;rw [if_pos h]
theorem zL5 {n:Nat}:(zLz n).length=2 ^ n:=by rw [zLz,List.length_map,List.length_range]
set_option maxRecDepth 30000 in
theorem zL6 (n:Nat) (tb:Sl Bool) (want long:Bool) (Qt:List Nat→Bool) (h:Hp) (hn:n≤6) (ht:tb.Ok h) (et:tb.l=(List.range (2 ^ n)).map fun b=>Qt (zLj n b)):Ct jV 80 [.int .i64 n,tb.val,.bool want,.bool long] h fun v h'=>∃ s:Sl Int,v=s.val∧s.l=zs ((zLt long (fun w=>Qt w == want) (zLz n)).getD [])∧s.Ok h'∧Mine h h' s:=by
 have hpw:2 ^ n≤2 ^ 6:=Nat.pow_le_pow_right (by decide) hn
 have htl:tb.l.length=2 ^ n:=by rw [et,List.length_map,List.length_range]
 refine zdn (fun A W=>by simp) Tryz.func80 rfl rfl (by simp) fun W0=>?_
 refine Wk ?_
 refine zl5 0 ([]:List Int) rfl rfl rfl rfl (by decide) (fun y hy=>(by cases hy)) h (Hp.le_refl _) (Mines.flat (fun _=>rfl) (fun _=>trivial)) fun b0 h0 e0 ok0 le0 m0=>?_
 refine Evs ?_
 refine zEE (ι:=Nat × Hp × Sl Int × Option (List Nat)) (fun i=>⟨[(0,true,.c (.v (.int .i64 n))),(2,true,.c (.v (.bool want))),(3,true,.c (.v (.bool long))),(8,true,.c (.v (.slice none 0 0))),(9,true,.c (.v i.2.2.1.val)),(10,true,.c (.v (.bool i.2.2.2.isSome))),(16,true,.c (.v tb.val)),(17,true,.c (.v (.int .i64 tb.l.length))),(18,true,.c (.v (.int .i64 i.1)))],[],i.2.1,1⟩) (fun i=>i.1≤tb.l.length∧((zLz n).take i.1).foldl (zLs long (fun w=>Qt w == want)) none=i.2.2.2∧h.le i.2.1∧i.2.2.1.Ok i.2.1∧Mine h i.2.1 i.2.2.1∧i.2.2.1.l=zs (i.2.2.2.getD [])) (fun i=>tb.l.length - i.1) (0,h0,b0,none) ⟨Nat.zero_le _,rfl,le0,ok0,m0,e0⟩ [] ?_ ?_
 ·refine Evs ?_
  exact Gk
 rintro ⟨k,hk,be,r⟩ ⟨hkl,hr,lek,okb,mb,eb⟩
 simp only at hkl hr lek okb mb eb
 have htk:=ht.mono lek
 refine Wk ?_
 refine zc9 rfl (fun hd=>?_) (fun hd=>?_)
 ·have hlt:=zjH hd
  have hlt2:k < 2 ^ n:=by omega
  have hv:tb.l[k]=Qt (zLj n k):=by simp only [et,List.getElem_map,List.getElem_range]
  repeat' first|refine Wa ?_|(simp only [go_sem,jq,jj,jy,jv,jk,jx,zBL htk hlt,htk.some hlt,hlt,hv,jW];try rfl)|refine Wb ?_|fail
  refine zc9 rfl (fun hw=>?_) (fun hw=>?_)
  ·have hpk:((zLz n).take (k+1)).foldl (zLs long (fun w=>Qt w == want)) none=r:=by
    rw [zL1 hlt2,List.foldl_append,hr,List.foldl_cons,List.foldl_nil,zL2 (by
     have:=zjD hw
     simpa using this)]
   refine Wk ?_
   refine ⟨(k+1,hk,be,r),[],⟨hlt,hpk,lek,okb,mb,eb⟩,by simp only;omega,?_⟩
   refine Evs ?_
   exact Gi (zjA hlt (by omega))
  have hQ:(Qt (zLj n k) == want)=true:=by
   have:=zjE hw
   simpa using this
  refine Wk ?_
  refine zkr (zLV n k _ hn hlt2) rfl ?_
  rintro v h2 le2 ⟨s,rfl,es,oks,ms⟩
  have okb2:=okb.mono le2
  have mb2:=mb.on le2 okb
  have ms2:=ms.back lek
  have lek2:=Hp.le_trans lek le2
  have hsl:s.l.length=(zLj n k).length:=by rw [es,zHW]
  have hs6:(zLj n k).length≤6:=Nat.le_trans (zLA zLk) hn
  cases r with
  | none =>
   have hpk:((zLz n).take (k+1)).foldl (zLs long (fun w=>Qt w == want)) none=some (zLj n k):=by
    rw [zL1 hlt2,List.foldl_append,hr,List.foldl_cons,List.foldl_nil,zL3 hQ]
   cases long with
   | false =>
    repeat' first|refine Wa ?_|(simp only [go_sem,jq,jj,jy,jv,jk,jx,Option.isSome_none,Option.isSome_some,Bool.not_false,Bool.not_true,Bool.true_or,Bool.false_or,Bool.true_and,Bool.and_false,Bool.false_and,Bool.false_eq_true,false_implies,implies_true,true_and];try rfl)|refine Wb ?_|fail
    refine zc9 rfl (fun hz=>?_) (fun hz=>?_)
    ·cases hz
    repeat' first|refine Wa ?_|(simp only [go_sem,jq,jj,jy,jv,jk,jx,Option.isSome_none,Option.isSome_some,Bool.not_false,Bool.not_true,Bool.true_or,Bool.false_or,Bool.true_and,Bool.and_false,Bool.false_and,Bool.false_eq_true,false_implies,implies_true,true_and];try rfl)|refine Wb ?_|fail
    refine zhF (V:=.bool false) (fun e=>by cases e) ?_
    repeat' first|refine Wa ?_|(simp only [go_sem,jq,jj,jy,jv,jk,jx,Option.isSome_none,Option.isSome_some,Bool.not_false,Bool.not_true,Bool.true_or,Bool.false_or,Bool.true_and,Bool.and_false,Bool.false_and,Bool.false_eq_true,false_implies,implies_true,true_and];try rfl)|refine Wb ?_|fail
    refine zc9 rfl (fun hz=>?_) (fun hz=>?_)
    case refine_2=>cases hz
    refine Wk ?_
    refine ⟨(k+1,h2,s,some (zLj n k)),[],⟨hlt,hpk,lek2,oks,ms2,es⟩,by simp only;omega,?_⟩
    refine Evs ?_
    exact Gi (zjA hlt (by omega))
   | true =>
    repeat' first|refine Wa ?_|(simp only [go_sem,jq,jj,jy,jv,jk,jx,Option.isSome_none,Option.isSome_some,Bool.not_false,Bool.not_true,Bool.true_or,Bool.false_or,Bool.true_and,Bool.and_false,Bool.false_and,Bool.false_eq_true,false_implies,implies_true,true_and];try rfl)|refine Wb ?_|fail
    refine zc9 rfl (fun hz=>?_) (fun hz=>?_)
    ·cases hz
    repeat' first|refine Wa ?_|(simp only [go_sem,jq,jj,jy,jv,jk,jx,Option.isSome_none,Option.isSome_some,Bool.not_false,Bool.not_true,Bool.true_or,Bool.false_or,Bool.true_and,Bool.and_false,Bool.false_and,Bool.false_eq_true,false_implies,implies_true,true_and];try rfl)|refine Wb ?_|fail
    refine zhF (V:=.bool false) (fun e=>by cases e) ?_
    repeat' first|refine Wa ?_|(simp only [go_sem,jq,jj,jy,jv,jk,jx,Option.isSome_none,Option.isSome_some,Bool.not_false,Bool.not_true,Bool.true_or,Bool.false_or,Bool.true_and,Bool.and_false,Bool.false_and,Bool.false_eq_true,false_implies,implies_true,true_and];try rfl)|refine Wb ?_|fail
    refine zc9 rfl (fun hz=>?_) (fun hz=>?_)
    case refine_2=>cases hz
    refine Wk ?_
    refine ⟨(k+1,h2,s,some (zLj n k)),[],⟨hlt,hpk,lek2,oks,ms2,es⟩,by simp only;omega,?_⟩
    refine Evs ?_
    exact Gi (zjA hlt (by omega))
  | some q =>
   have hql:be.l.length=q.length:=by rw [eb,zHW];rfl
   have hlx:∀ (g:Bool),(g=true→(zLj n k).length=q.length)→g=true→Ct jV 131 [s.val,be.val] h2 fun v h'=>v=.bool (lx (zLj n k) q)∧h'=h2:=fun g hg e=>zLS s be (zLj n k) q _ oks okb2 es eb (hg e)
   have hpk:((zLz n).take (k+1)).foldl (zLs long (fun w=>Qt w == want)) none=if bet long (zLj n k) q=true then some (zLj n k) else some q:=by
    rw [zL1 hlt2,List.foldl_append,hr,List.foldl_cons,List.foldl_nil,zL4 hQ]
   cases long with
   | false =>
    repeat' first|refine Wa ?_|(simp only [go_sem,jq,jj,jy,jv,jk,jx,Option.isSome_none,Option.isSome_some,Bool.not_false,Bool.not_true,Bool.true_or,Bool.false_or,Bool.true_and,Bool.and_false,Bool.false_and,Bool.false_eq_true,false_implies,implies_true,true_and];try rfl)|refine Wb ?_|fail
    refine zc9 rfl (fun hz=>?_) (fun hz=>?_)
    ·cases hz
    repeat' first|refine Wa ?_|(simp only [go_sem,jq,jj,jy,jv,jk,jx,Option.isSome_none,Option.isSome_some,Bool.not_false,Bool.not_true,Bool.true_or,Bool.false_or,Bool.true_and,Bool.and_false,Bool.false_and,Bool.false_eq_true,false_implies,implies_true,true_and,hsl,hql];try rfl)|refine Wb ?_|fail
    refine zhF (fun hg=>hlx _ (fun e=>by simp at e;omega) hg) ?_
    repeat' first|refine Wa ?_|(simp only [go_sem,jq,jj,jy,jv,jk,jx,Option.isSome_none,Option.isSome_some,Bool.not_false,Bool.not_true,Bool.true_or,Bool.false_or,Bool.true_and,Bool.and_false,Bool.false_and,Bool.false_eq_true,false_implies,implies_true,true_and];try rfl)|refine Wb ?_|fail
    refine zc9 rfl (fun hz=>?_) (fun hz=>?_)
    ·have hb:bet false (zLj n k) q=true:=by cases hL:lx (zLj n k) q <;> simp [bet,hL] at hz ⊢ <;> omega
     rw [if_pos hb] at hpk
     refine Wk ?_
     refine ⟨(k+1,h2,s,some (zLj n k)),[],⟨hlt,hpk,lek2,oks,ms2,es⟩,by simp only;omega,?_⟩
     refine Evs ?_
     exact Gi (zjA hlt (by omega))
    ·have hb:¬ bet false (zLj n k) q=true:=by cases hL:lx (zLj n k) q <;> simp [bet,hL] at hz ⊢ <;> omega
     rw [if_neg hb] at hpk
     refine Wk ?_
     refine ⟨(k+1,h2,be,some q),[],⟨hlt,hpk,lek2,okb2,mb2,eb⟩,by simp only;omega,?_⟩
     refine Evs ?_
     exact Gi (zjA hlt (by omega))
   | true =>
    repeat' first|refine Wa ?_|(simp only [go_sem,jq,jj,jy,jv,jk,jx,Option.isSome_none,Option.isSome_some,Bool.not_false,Bool.not_true,Bool.true_or,Bool.false_or,Bool.true_and,Bool.and_false,Bool.false_and,Bool.false_eq_true,false_implies,implies_true,true_and];try rfl)|refine Wb ?_|fail
    refine zc9 rfl (fun hz=>?_) (fun hz=>?_)
    case refine_2=>cases hz
    repeat' first|refine Wa ?_|(simp only [go_sem,jq,jj,jy,jv,jk,jx,Option.isSome_none,Option.isSome_some,Bool.not_false,Bool.not_true,Bool.true_or,Bool.false_or,Bool.true_and,Bool.and_false,Bool.false_and,Bool.false_eq_true,false_implies,implies_true,true_and,hsl,hql];try rfl)|refine Wb ?_|fail
    refine zhF (fun hg=>hlx _ (fun e=>by simp at e;omega) hg) ?_
    repeat' first|refine Wa ?_|(simp only [go_sem,jq,jj,jy,jv,jk,jx,Option.isSome_none,Option.isSome_some,Bool.not_false,Bool.not_true,Bool.true_or,Bool.false_or,Bool.true_and,Bool.and_false,Bool.false_and,Bool.false_eq_true,false_implies,implies_true,true_and];try rfl)|refine Wb ?_|fail
    refine zc9 rfl (fun hz=>?_) (fun hz=>?_)
    ·have hb:bet true (zLj n k) q=true:=by cases hL:lx (zLj n k) q <;> simp [bet,hL] at hz ⊢ <;> omega
     rw [if_pos hb] at hpk
     refine Wk ?_
     refine ⟨(k+1,h2,s,some (zLj n k)),[],⟨hlt,hpk,lek2,oks,ms2,es⟩,by simp only;omega,?_⟩
     refine Evs ?_
     exact Gi (zjA hlt (by omega))
    ·have hb:¬ bet true (zLj n k) q=true:=by cases hL:lx (zLj n k) q <;> simp [bet,hL] at hz ⊢ <;> omega
     rw [if_neg hb] at hpk
     refine Wk ?_
     refine ⟨(k+1,h2,be,some q),[],⟨hlt,hpk,lek2,okb2,mb2,eb⟩,by simp only;omega,?_⟩
     refine Evs ?_
     exact Gi (zjA hlt (by omega))
 ·have hge:=zjI hd
  have hke:k=(zLz n).length:=by rw [zL5];omega
  rw [hke,List.take_length] at hr
  refine Wk ?_
  have hpl:zLt long (fun w=>Qt w == want) (zLz n)=r:=hr
  rw [hpl]
  refine zc9 rfl (fun hz=>?_) (fun hz=>?_)
  ·cases r with
   | some q=>cases hz
   | none =>
    refine Wk ?_
    exact ⟨⟨none,0,[]⟩,rfl,rfl,znp,Mine.nil⟩
  ·refine Wk ?_
   exact ⟨be,rfl,eb,okb,mb⟩
def selG (size n f:Nat):List (List Nat):=(sels size (n - f - 1)).map fun r=>f :: r.map (f+1+·)
theorem zL7 {size n:Nat}:sels (size+1) n=(List.range n).flatMap (selG size n):=rfl
set_option maxRecDepth 30000 in
theorem zL8:∀ (size n:Nat) (h:Hp),n≤6→size≤100→Ct jV 82 [.int .i64 n,.int .i64 size] h fun v h'=>∃ s:Sl (Sl Int),v=s.val∧s.l.map (·.l)=(sels size n).map zs∧s.Ok h'∧Mine h h' s
 | 0,n,h,hn,_=>by
  refine zdn (fun A W=>by simp) Tryz.func82 rfl rfl (by simp) fun W0=>?_
  refine Wk ?_
  refine zc9 rfl (fun hq=>?_) (fun hq=>?_)
  case refine_2=>simp at hq
  first|refine zyi [2,0,0] rfl ?_|refine zyh [2,0,0] rfl ?_|(refine zc3 ?_;first|refine zyi [2,0,0] rfl ?_|refine zyh [2,0,0] rfl ?_)
  refine Evs ?_
  intro ad cap h1 P
  have P':Pub h 3 (Enc.size Int) ([]:List Int).length (([]:List Int).flatMap Enc.enc) ad cap h1:=P
  have ok1:(Sl.mk ad cap ([]:List Int)).Ok h1:=Pub.sl (l:=([]:List Int)) (by decide) P' (fun y hy=>(by cases hy))
  try simp only [go_sem,jq,jj,jy,jv,jk,jx]
  refine zl5 1 [Sl.mk ad cap ([]:List Int)] rfl rfl rfl rfl (by decide) (fun y hy=>by rw [List.mem_singleton.1 hy];exact ok1) h P'.le ⟨fun y hy=>by rw [List.mem_singleton.1 hy];exact (Mine.nil (h:=h) (h':=h1)).1,fun b hb=>(by cases hb),List.nodup_nil⟩ fun s h' e1 e2 e3 e4=>?_
  refine Wk ?_
  exact ⟨s,rfl,by rw [e1];rfl,e2,e4⟩
 | size+1,n,h,hn,hs100=>by
  refine zdn (fun A W=>by simp) Tryz.func82 rfl rfl (by simp) fun W0=>?_
  refine Wk ?_
  refine zc9 rfl (fun hq=>?_) (fun hq=>?_)
  ·have:=eq_of_beq hq
   omega
  refine Wk ?_
  refine zm1 (ι:=Nat × List (Sl Int) × Hp) (fun t=>match t with|(f,acc,hk)=>⟨[(0,true,.c (.v (.int .i64 n))),(1,true,.c (.v (.int .i64 (size+1:Nat)))),(4,true,.c (.v (.slice none 0 0))),(5,true,.c (.s 0)),(17,true,.c (.v (.int .i64 n))),(18,true,.c (.v (.int .i64 f)))],[(0,.row 35 1 acc.length (acc.flatMap Enc.enc))],hk,1⟩) (fun t=>t.1≤n∧t.2.1.map (·.l)=((List.range t.1).flatMap (selG size n)).map zs∧t.2.1.length≤64 * t.1∧(∀ y ∈ t.2.1,Enc.ok t.2.2 y)∧Mines h t.2.2 t.2.1∧h.le t.2.2) (fun t=>n - t.1) (0,[],h) ⟨Nat.zero_le _,rfl,Nat.zero_le _,fun y hy=>(by cases hy),Mines.nil,Hp.le_refl _⟩ [0] ?_ ?_
  ·refine Evs ?_
   exact Gk
  rintro ⟨f,acc,hk⟩ ⟨hf,hm,hal,hok,hmi,hle⟩
  simp only at hf hm hal hok hmi hle
  refine Wk ?_
  refine zc9 rfl (fun hd=>?_) (fun hd=>?_)
  ·have hlt:f < n:=zjH hd
   have hw1:IntKind.i64.wrap (IntKind.i64.wrap ((n:Int) - (f:Int)) - 1)=((n - f - 1:Nat):Int):=by rw [zjz (n:=(n:Int) - (f:Int)) (by omega),zjz (by omega)];omega
   have hw2:IntKind.i64.wrap (((size+1:Nat):Int) - 1)=((size:Nat):Int):=by rw [zjz (by omega)];omega
   repeat' first|refine Wa ?_|(simp only [go_sem,jq,jj,jy,jv,jk,jx,hw1,hw2];try rfl)|refine Wb ?_|fail
   refine zkr (zL8 size (n - f - 1) _ (by omega) (by omega)) rfl ?_
   rintro v h1 le1 ⟨s,rfl,es,oks,ms⟩
   have hsl:s.l.length=(sels size (n - f - 1)).length:=zKG es
   have hs64:=zLI (n:=n - f - 1) (by omega) (s:=size)
   refine Wk ?_
   refine zm1 (ι:=Nat × List (Sl Int) × Hp) (fun t=>match t with|(j,ac,hj)=>⟨[(0,true,.c (.v (.int .i64 n))),(1,true,.c (.v (.int .i64 (size+1:Nat)))),(4,true,.c (.v (.slice none 0 0))),(5,true,.c (.s 0)),(6,true,.c (.v (.int .i64 f))),(17,true,.c (.v (.int .i64 n))),(18,true,.c (.v (.int .i64 f))),(27,true,.c (.v s.val)),(28,true,.c (.v (.int .i64 s.l.length))),(29,true,.c (.v (.int .i64 j)))],[(0,.row 35 1 ac.length (ac.flatMap Enc.enc))],hj,1⟩) (fun t=>t.1≤s.l.length∧t.2.1.map (·.l)=((List.range f).flatMap (selG size n)).map zs ++ ((selG size n f).take t.1).map zs∧t.2.1.length≤64 * f+t.1∧(∀ y ∈ t.2.1,Enc.ok t.2.2 y)∧Mines h t.2.2 t.2.1∧h.le t.2.2∧h1.le t.2.2) (fun t=>s.l.length - t.1) (0,acc,h1) ⟨Nat.zero_le _,by simp [hm],hal,fun y hy=>Enc.mono le1 (hok y hy),⟨fun y hy=>(Foot.loc (hok y hy) (hmi.1 y hy) fun b _ o ho=>le1 b o ho).2,hmi.2.1,hmi.2.2⟩,Hp.le_trans hle le1,Hp.le_refl _⟩ [0] ?_ ?_
   ·refine Evs ?_
    have l01:=Hp.le_trans hle le1
    exact Gk
   rintro ⟨j,ac,hj⟩ ⟨hjl,hmj,hlj,hoj,hmij,lej,lesj⟩
   simp only at hjl hmj hlj hoj hmij lej lesj
   have oksj:=oks.mono lesj
   refine Wk ?_
   refine zc9 rfl (fun hdj=>?_) (fun hdj=>?_)
   ·have hltj:=zjH hdj
    have hokr:s.l[j].Ok hj:=Sl.Ok.el oksj hltj
    obtain ⟨r,hrm,hr⟩:∃ r,r ∈ sels size (n - f - 1)∧s.l[j].l=zs r∧(selG size n f)[j]?=some (f :: r.map (f+1+·)):=by
     have h9:j < (sels size (n - f - 1)).length:=by omega
     refine ⟨(sels size (n - f - 1))[j],List.getElem_mem h9,zKF es hltj h9,?_⟩
     rw [selG,List.getElem?_map,List.getElem?_eq_getElem h9];rfl
    obtain ⟨hr,hg⟩:=hr
    obtain ⟨hrs,hra⟩:=zLm.1 hrm
    have hrl:r.length≤6:=Nat.le_trans (zLA hra) (by omega)
    have hsj:s.l[j].l.length=r.length:=by rw [hr,zHW]
    obtain ⟨W,hW⟩:∃ W:Nat→List Int,W=fun i=>zs (f :: (r.take i).map (f+1+·)):=⟨_,rfl⟩
    have hW0:W 0=[(f:Int)]:=by rw [hW];rfl
    have hWl:∀ i,i≤r.length→(W i).length=i+1:=fun i hi=>by rw [hW];simp [zs];omega
    have hWn:∀ i (hi:i < r.length),W (i+1)=W i ++ [((f+1+r[i]:Nat):Int)]:=fun i hi=>by
     rw [hW]
     simp only [List.take_succ_eq_append_getElem hi,List.map_append,List.map_cons,List.map_nil]
     rw [← List.cons_append,zLQ];rfl
    repeat' first|refine Wa ?_|(simp only [go_sem,jq,jj,jy,jv,jk,jx,zkQ oksj hltj,oksj.some hltj,hltj,jW];try rfl)|refine Wb ?_|fail
    refine zm1 (ι:=Nat) (fun i=>⟨[(0,true,.c (.v (.int .i64 n))),(1,true,.c (.v (.int .i64 (size+1:Nat)))),(4,true,.c (.v (.slice none 0 0))),(5,true,.c (.s 0)),(6,true,.c (.v (.int .i64 f))),(17,true,.c (.v (.int .i64 n))),(18,true,.c (.v (.int .i64 f))),(27,true,.c (.v s.val)),(28,true,.c (.v (.int .i64 s.l.length))),(29,true,.c (.v (.int .i64 j))),(9,true,.c (.s 1)),(35,true,.c (.v s.l[j].val)),(36,true,.c (.v (.int .i64 r.length))),(37,true,.c (.v (.int .i64 i)))],[(0,.row 35 1 ac.length (ac.flatMap Enc.enc)),(1,.row 3 1 (i+1) ((W i).flatMap Enc.enc))],hj,2⟩) (fun i=>i≤r.length) (fun i=>r.length - i) 0 (Nat.zero_le _) [0,1] ?_ ?_
    ·simp only [go_sem,jq,jj,jy,jv,jk,jx,hsj]
     rw [hW0]
     exact Gk
    intro i hi
    refine Wk ?_
    refine zc9 rfl (fun hdi=>?_) (fun hdi=>?_)
    ·have hlti:i < r.length:=zjH hdi
     have hlti2:i < s.l[j].l.length:=by omega
     have he:s.l[j].l[i]=((r[i]:Nat):Int):=by simp only [hr];exact zLO hlti _
     have hri:=hra.2 _ (List.getElem_mem hlti)
     have hwe:IntKind.i64.wrap (IntKind.i64.wrap ((f:Int)+1)+(r[i]:Nat))=((f+1+r[i]:Nat):Int):=by rw [zjz (n:=(f:Int)+1) (by omega),zjz (by omega)];omega
     repeat' first|refine Wa ?_|(simp only [go_sem,jq,jj,jy,jv,jk,jx,zkR hokr hlti2,hokr.some hlti2,hlti2,hlti,he,hwe,jW];try rfl)|refine Wb ?_|fail
     refine ⟨by simp only [maxLen];omega,by omega,?_⟩
     refine Wk ?_
     refine ⟨i+1,[0,3],hlti,by omega,?_⟩
     refine Evs ?_
     rw [hWn i hlti,List.flatMap_append]
     exact Gi (zjA hlti (by omega))
    ·have hgei:=zjI hdi
     obtain rfl:i=r.length:=by omega
     refine zc6 ?_
     refine Evs ?_
     refine zl5 1 (W r.length) rfl rfl (hWl _ (Nat.le_refl _)).symm rfl (by decide) (fun y hy=>?_) hj (Hp.le_refl _) (Mines.flat (fun _=>rfl) (fun _=>trivial)) fun q h' e1 e2 e3 e4=>?_
     ·rw [hW] at hy
      refine zLR (fun z hz=>?_) y hy
      rcases List.mem_cons.1 hz with rfl|hz
      ·omega
      ·obtain ⟨u,hu,rfl⟩:=List.mem_map.1 hz
       have:=hra.2 u (List.mem_of_mem_take hu)
       omega
     refine Wk ?_
     refine ⟨by simp only [maxLen];omega,by omega,?_⟩
     refine Wk ?_
     have hqe:q.l=zs (f :: r.map (f+1+·)):=by rw [e1,hW];simp
     refine ⟨(j+1,ac ++ [q],h'),[3],⟨hltj,?_,by simp only [List.length_append,List.length_singleton];omega,fun y hy=>?_,Mines.snoc hmij hoj e3 lej e4,Hp.le_trans lej e3,Hp.le_trans lesj e3⟩,by simp only;omega,?_⟩
     ·show (ac ++ [q]).map _=_
      obtain ⟨hj9,hg9⟩:=List.getElem?_eq_some_iff.1 hg
      rw [List.map_append,hmj,List.map_cons,List.map_nil,hqe,List.take_succ_eq_append_getElem hj9,hg9,List.map_append,List.append_assoc];rfl
     ·rcases List.mem_append.1 hy with hy|hy
      ·exact Enc.mono e3 (hoj y hy)
      ·rw [List.mem_singleton.1 hy];exact e2
     refine Evs ?_
     have lle:=Hp.le_trans lej e3
     simp only [List.flatMap_append,List.length_append]
     exact Gi (zjA hltj (by omega))
   ·have hgej:=zjI hdj
    have hje:j=s.l.length:=by omega
    refine Wk ?_
    refine ⟨(f+1,ac,hj),[0],⟨hlt,?_,by simp only;omega,hoj,hmij,lej⟩,by simp only;omega,?_⟩
    ·simp only
     rw [hmj,List.range_succ,List.flatMap_append,List.map_append,List.flatMap_cons,List.flatMap_nil,List.append_nil,List.take_of_length_le (by rw [selG,List.length_map];omega)]
    refine Evs ?_
    exact Gi (zjA (n:=64) (k:=f) (by omega) (by omega))
  ·have hge:=zjI hd
   obtain rfl:f=n:=by omega
   refine zc6 ?_
   refine Evs ?_
   refine zl5 0 acc rfl rfl rfl rfl (by decide) hok h hle hmi fun q h' e1 e2 e3 e4=>?_
   refine Wk ?_
   exact ⟨q,rfl,by rw [e1,hm,zL7],e2,e4⟩
theorem zL9 {s m:Nat} (h:s < m):List.range m=List.range s ++ s :: (List.range m).drop (s+1):=by
 have e:=List.take_append_drop s (List.range m)
 rw [List.take_range,Nat.min_eq_left (Nat.le_of_lt h),List.drop_eq_getElem_cons (by simpa using h)] at e
 simpa using e.symm
theorem zMa {α:Type} {P:α→Bool} {A B:List α} {w:α} (hA:∀ y ∈ A,P y=false) (hw:P w=true):(A ++ w :: B).find? P=some w:=by
 rw [List.find?_append,List.find?_eq_none.2 (fun y hy=>by rw [hA y hy];exact Bool.false_ne_true),List.find?_cons,hw];rfl
theorem zMb {β:Type} {P:β→Bool} {F:Nat→List β} {m s j:Nat} (hs:s < m) (hj:j < (F s).length) (hA:∀ y ∈ (List.range s).flatMap F,P y=false) (hB:∀ y ∈ (F s).take j,P y=false) (hw:P (F s)[j]=true):((List.range m).flatMap F).find? P=some (F s)[j]:=by
 have e:(List.range m).flatMap F=((List.range s).flatMap F ++ (F s).take j) ++ (F s)[j] :: ((F s).drop (j+1) ++ ((List.range m).drop (s+1)).flatMap F):=by
  rw [zL9 hs]
  simp only [List.flatMap_append,List.flatMap_cons]
  have h2:=List.take_append_drop j (F s)
  rw [List.drop_eq_getElem_cons hj] at h2
  have h3:(List.range s ++ s :: (List.range m).drop (s+1)).drop (s+1)=(List.range m).drop (s+1):=by rw [← zL9 hs]
  rw [h3,List.append_assoc]
  congr 1
  exact (congrArg (· ++ _) h2.symm).trans (List.append_assoc ..)
 rw [e]
 refine zMa (fun y hy=>?_) hw
 rcases List.mem_append.1 hy with hy|hy
 ·exact hA y hy
 ·exact hB y hy
theorem zMc {β:Type} {P:β→Bool} {F:Nat→List β} {m:Nat} (hA:∀ y ∈ (List.range m).flatMap F,P y=false):((List.range m).flatMap F).find? P=none:=List.find?_eq_none.2 fun y hy=>by rw [hA y hy];exact Bool.false_ne_true
theorem zMd {w:List Nat} {i:Nat} (h:i < w.length):(zs w).getD i 0=((w[i]:Nat):Int):=by simp [zs,List.getD_eq_getElem?_getD,h]
theorem zMe {n:Nat} {w:List Nat} (h:Asc n w) {i j:Nat} (hj:j < w.length) (hij:i < j):w[i]'(by omega) < w[j]:=List.pairwise_iff_getElem.1 h.1 i j (by omega) hj hij
theorem zMf {n:Nat} {w:List Nat} (h:Asc n w):Sel n (zs w):=fun i hi=>by
 rw [zHW] at hi
 rw [zMd hi]
 refine ⟨jY _,by have:=h.2 _ (List.getElem_mem hi);omega,fun h0=>?_⟩
 rw [zMd (show i - 1 < w.length by omega)]
 have:=zMe h (i:=i - 1) hi (by omega)
 omega
def selC (a:List DCall) (w:List Nat):List DCall:=w.map fun k=>a.getD k ⟨0,0,0,0,0⟩
theorem zMg {a:List DCall} {w:List Nat} (h:Asc a.length w):zJm a (zs w)=selC a w:=by
 rw [zJm,if_pos (zMf h),zs,List.map_map];rfl
theorem zMh {a:List DCall} {w:List Nat} {i:Nat} (hi:i < w.length):(selC a w).getD i dC=a.getD w[i] ⟨0,0,0,0,0⟩:=by simp [selC,List.getD_eq_getElem?_getD,hi]
theorem zMi {x:PHarbour} {a:List DCall} {w:List Nat} (hc:zAP x a=true) (h:Asc a.length w):zAP x (selC a w)=true:=by
 have hl:=zLA h
 rw [zAP,jJ,jJ,decide_eq_true_eq,decide_eq_true_eq] at hc ⊢
 obtain ⟨⟨h1,h2⟩,h3⟩:=hc
 have hwl:(selC a w).length=w.length:=List.length_map ..
 have hd:dC=(⟨0,0,0,0,0⟩:DCall):=rfl
 refine ⟨⟨h1,by omega⟩,fun i hi=>?_⟩
 rw [hwl] at hi
 have hwi:=h.2 _ (List.getElem_mem hi)
 have h4:=h3 _ hwi
 rw [clOk,jJ] at h4 ⊢
 rw [zMh hi,← hd]
 refine ⟨h4.1,?_⟩
 rw [zAO,decide_eq_true_eq] at h4 ⊢
 intro j hj
 rw [zMh hi,zMh (show j < w.length by omega),← hd]
 exact h4.2 _ (zMe h hi hj)
theorem zMj {x:DHarbour} {a:List DCall} {w:List Nat} (hc:zAP (Con.con x) a=true) (h:Asc a.length w):zLK (Con.con x) a (zs w)=QS (Con.con x) a w:=by
 have hs:=zMi hc h
 have h6:=zJy hs
 have hw:=zJU hs
 have hfl:(Con.con x).fleet=x.fleet.l:=zz2 _
 have hB:zKc (Con.con x) (zJu (Con.con x) (selC a w))=srI (Con.con x) (zJu (Con.con x) (selC a w)) [] [] none:=zKd hw (fun l hl o ho=>by
  rw [zJu] at hl
  obtain ⟨d,_,rfl⟩:=List.mem_map.1 hl
  rw [hfl];exact zJj o ho) (fun l hl o ho=>by
  rw [zJu] at hl
  obtain ⟨d,_,rfl⟩:=List.mem_map.1 hl
  exact (zGr o ho).1) (by rw [zJx];omega)
 have hL:zJu (Con.con x) (selC a w)=w.map fun k=>(zJu (Con.con x) a).getD k []:=by
  rw [zJu,selC,List.map_map]
  refine List.map_congr_left fun k hk=>?_
  have hka:=h.2 k hk
  simp only [Function.comp]
  rw [zJw hka]
  simp [List.getD_eq_getElem?_getD,hka]
 rw [zLK,hc,decide_eq_true (zMf h),zMg h,Bool.true_and,Bool.true_and,zLJ,zKf,if_pos hs,← hB,hL,QS]
noncomputable def refL (x:PHarbour) (a:List DCall):List Nat:=(zLt false (fun w=>QS x a w == false) (zLz a.length)).getD []
noncomputable def srvL (x:PHarbour) (a:List DCall):List Nat:=(zLt true (fun w=>QS x a w == true) (zLz a.length)).getD []
noncomputable def zMk (x:PHarbour) (a:List DCall):List Int:=if zAP x a=true then zs (refL x a) else []
noncomputable def zMl (x:PHarbour) (a:List DCall):List Int:=if zAP x a=true then zs (srvL x a) else []
theorem zMm {long:Bool} {Q:List Nat→Bool} {n:Nat}:((zLt long Q (zLz n)).getD []).length≤n:=by
 have h:=zLw (long:=long) (Q:=Q) (ls:=zLz n)
 cases hr:zLt long Q (zLz n) with
 | none=>exact Nat.zero_le _
 | some b =>
  rw [hr] at h
  exact zLA (zLB.1 h.1)
theorem zMn (x:PHarbour) (a:List DCall):Sz.sz (zMk x a)≤1048576:=by
 rw [zMk]
 split
 ·rename_i hc
  have:=zJy hc
  have h2:(refL x a).length≤a.length:=zMm
  rw [zLh];omega
 ·exact Nat.zero_le _
theorem zMo (x:PHarbour) (a:List DCall):Sz.sz (zMl x a)≤1048576:=by
 rw [zMl]
 split
 ·rename_i hc
  have:=zJy hc
  have h2:(srvL x a).length≤a.length:=zMm
  rw [zLh];omega
 ·exact Nat.zero_le _
noncomputable def zMp (x:PHarbour) (a:List DCall):Int:=if zAP x a=true then (a.length:Int) - (zMl x a).length else -1
set_option maxRecDepth 30000 in
theorem zMq (x:DHarbour) (a:Sl DCall) (h:Hp) (hx:Enc.ok h x) (ha:a.Ok h):Ct jV 33 [x.v,a.val] h fun v h'=>∃ s:Sl Int,v=s.val∧Con.con s=zMk (Con.con x) (Con.con a)∧s.Ok h'∧Mine h h' s:=by
 have hca:Con.con a=a.l:=zAQ a
 rw [hca]
 refine zdn (fun A W=>by simp) Tryz.func33 rfl rfl (by simp) fun W0=>?_
 repeat' first|refine Wa ?_|refine zhF (fun _=>zAR x a _ hx ha) ?_|(simp only [go_sem,jq,jj,jy,jv,jk,jx];try rfl)|refine Wb ?_|fail
 rw [hca]
 refine zc9 rfl (fun hc=>?_) (fun hc=>?_)
 ·rw [Bool.not_eq_true'] at hc
  rw [zMk,if_neg (by rw [hc];exact Bool.false_ne_true)]
  refine Wk ?_
  exact ⟨⟨none,0,[]⟩,rfl,rfl,znp,Mine.nil⟩
 rw [Bool.not_eq_false'] at hc
 have h6:=zJy hc
 rw [zMk,if_pos hc]
 refine Wk ?_
 refine zkr (zL0 x a _ hx ha hc) rfl ?_
 rintro v h1 le1 ⟨t,rfl,et,okt⟩
 refine Wk ?_
 refine zkr (zL6 a.l.length t false false (QS (Con.con x) a.l) _ h6 okt et) rfl ?_
 rintro v h2 le2 ⟨s,rfl,es,oks,ms⟩
 refine Wk ?_
 exact ⟨s,rfl,con_ints.trans es,oks,ms.back le1⟩
set_option maxRecDepth 30000 in
theorem zMr (x:DHarbour) (a:Sl DCall) (h:Hp) (hx:Enc.ok h x) (ha:a.Ok h):Ct jV 39 [x.v,a.val] h fun v h'=>∃ s:Sl Int,v=s.val∧Con.con s=zMl (Con.con x) (Con.con a)∧s.Ok h'∧Mine h h' s:=by
 have hca:Con.con a=a.l:=zAQ a
 rw [hca]
 refine zdn (fun A W=>by simp) Tryz.func39 rfl rfl (by simp) fun W0=>?_
 repeat' first|refine Wa ?_|refine zhF (fun _=>zAR x a _ hx ha) ?_|(simp only [go_sem,jq,jj,jy,jv,jk,jx];try rfl)|refine Wb ?_|fail
 rw [hca]
 refine zc9 rfl (fun hc=>?_) (fun hc=>?_)
 ·rw [Bool.not_eq_true'] at hc
  rw [zMl,if_neg (by rw [hc];exact Bool.false_ne_true)]
  refine Wk ?_
  exact ⟨⟨none,0,[]⟩,rfl,rfl,znp,Mine.nil⟩
 rw [Bool.not_eq_false'] at hc
 have h6:=zJy hc
 rw [zMl,if_pos hc]
 refine Wk ?_
 refine zkr (zL0 x a _ hx ha hc) rfl ?_
 rintro v h1 le1 ⟨t,rfl,et,okt⟩
 refine Wk ?_
 refine zkr (zL6 a.l.length t true true (QS (Con.con x) a.l) _ h6 okt et) rfl ?_
 rintro v h2 le2 ⟨s,rfl,es,oks,ms⟩
 refine Wk ?_
 exact ⟨s,rfl,con_ints.trans es,oks,ms.back le1⟩
set_option maxRecDepth 30000 in
theorem zMs (x:DHarbour) (a:Sl DCall) (h:Hp) (hx:Enc.ok h x) (ha:a.Ok h):Ct jV 34 [x.v,a.val] h fun v h'=>∃ s:Sl Int,v=s.val∧Con.con s=zMk (Con.con x) (Con.con a)∧s.Ok h'∧Mine h h' s:=by
 have hca:Con.con a=a.l:=zAQ a
 rw [hca]
 refine zdn (fun A W=>by simp) Tryz.func34 rfl rfl (by simp) fun W0=>?_
 repeat' first|refine Wa ?_|refine zhF (fun _=>zAS x a _ hx ha) ?_|(simp only [go_sem,jq,jj,jy,jv,jk,jx];try rfl)|refine Wb ?_|fail
 rw [hca]
 refine zc9 rfl (fun hc=>?_) (fun hc=>?_)
 ·rw [Bool.not_eq_true'] at hc
  rw [zMk,if_neg (by rw [hc];exact Bool.false_ne_true)]
  refine Wk ?_
  exact ⟨⟨none,0,[]⟩,rfl,rfl,znp,Mine.nil⟩
 rw [Bool.not_eq_false'] at hc
 have h6:=zJy hc
 rw [zMk,if_pos hc]
 obtain ⟨P,hserv,hR⟩:∃ P:List Nat→Bool,(∀ w,Asc a.l.length w→(!zLK (Con.con x) a.l (zs w))=P w)∧∀ r,((List.range (a.l.length+1)).flatMap fun s=>sels s a.l.length).find? P=r→refL (Con.con x) a.l=r.getD []:=by
  refine ⟨fun w=>QS (Con.con x) a.l w == false,fun w hw=>?_,fun r hr=>?_⟩
  ·rw [zMj hc hw]
   show (!QS (Con.con x) a.l w)=(QS (Con.con x) a.l w == false)
   cases QS (Con.con x) a.l w <;> rfl
  ·rw [refL,← zLE,upL,hr]
 have hwn:IntKind.i64.wrap ((a.l.length:Int)+1)=((a.l.length+1:Nat):Int):=by rw [zjz (by omega)];rfl
 repeat' first|refine Wa ?_|(simp only [go_sem,jq,jj,jy,jv,jk,jx,hwn];try rfl)|refine Wb ?_|fail
 refine zm1 (ι:=Nat × Hp) (fun t=>⟨[(1,true,.c (.v a.val)),(2,true,.c (.p 0 0)),(4,true,.c (.v (.slice none 0 0))),(14,true,.c (.v (.int .i64 (a.l.length+1:Nat)))),(15,true,.c (.v (.int .i64 t.1)))],[(0,.box 58 [.v (.int .i64 x.forecast.tide.mean),.v x.forecast.tide.parts.val,.v x.forecast.surges.val,.v x.chart.points.val,.v x.chart.segments.val,.v x.fleet.val,.v (.int .i64 x.regime.gap),.v (.bool x.regime.noMeet),.v (.int .i64 x.crew.tugs),.v (.int .i64 x.crew.pilots),.v (.int .i64 x.crew.rest),.v x.crew.moves.val])],t.2,1⟩) (fun t=>t.1≤a.l.length+1∧(∀ y ∈ (List.range t.1).flatMap (fun s=>sels s a.l.length),P y=false)∧h.le t.2) (fun t=>a.l.length+1 - t.1) (0,h) ⟨Nat.zero_le _,fun y hy=>(by cases hy),Hp.le_refl _⟩ [0] ?_ ?_
 ·refine Evs ?_
  exact Gk
 rintro ⟨f,hk⟩ ⟨hf,hno,hle⟩
 simp only at hf hno hle
 refine Wk ?_
 refine zc9 rfl (fun hd=>?_) (fun hd=>?_)
 ·have hlt:f < a.l.length+1:=zjH hd
  refine Wk ?_
  refine zkr (zL8 f a.l.length _ h6 (by omega)) rfl ?_
  rintro v h1 le1 ⟨s,rfl,es,oks,ms⟩
  have hsl:s.l.length=(sels f a.l.length).length:=zKG es
  have le01:=Hp.le_trans hle le1
  have hs64:=zLI (n:=a.l.length) h6 (s:=f)
  refine Wk ?_
  refine zm1 (ι:=Nat) (fun j=>⟨[(1,true,.c (.v a.val)),(2,true,.c (.p 0 0)),(4,true,.c (.v (.slice none 0 0))),(14,true,.c (.v (.int .i64 (a.l.length+1:Nat)))),(15,true,.c (.v (.int .i64 f))),(21,true,.c (.v s.val)),(22,true,.c (.v (.int .i64 s.l.length))),(23,true,.c (.v (.int .i64 j)))],[(0,.box 58 [.v (.int .i64 x.forecast.tide.mean),.v x.forecast.tide.parts.val,.v x.forecast.surges.val,.v x.chart.points.val,.v x.chart.segments.val,.v x.fleet.val,.v (.int .i64 x.regime.gap),.v (.bool x.regime.noMeet),.v (.int .i64 x.crew.tugs),.v (.int .i64 x.crew.pilots),.v (.int .i64 x.crew.rest),.v x.crew.moves.val])],h1,1⟩) (fun j=>j≤s.l.length∧∀ y ∈ (sels f a.l.length).take j,P y=false) (fun j=>s.l.length - j) 0 ⟨Nat.zero_le _,fun y hy=>(by cases hy)⟩ [0] ?_ ?_
  ·refine Evs ?_
   exact Gk
  rintro j ⟨hj,hnj⟩
  refine Wk ?_
  refine zc9 rfl (fun hdj=>?_) (fun hdj=>?_)
  ·have hltj:=zjH hdj
   have h9:j < (sels f a.l.length).length:=by omega
   have hel:s.l[j].l=zs (sels f a.l.length)[j]:=zKF es hltj h9
   have has:=(zLm.1 (List.getElem_mem h9)).2
   have hos:s.l[j].Ok h1:=Sl.Ok.el oks hltj
   repeat' first|refine Wa ?_|(simp only [go_sem,jq,jj,jy,jv,jk,jx,zkQ oks hltj,oks.some hltj,hltj,jW];try rfl)|refine Wb ?_|fail
   refine zhF (fun _=>zLM x a s.l[j] _ (Enc.mono le01 hx) (ha.mono le01) hos (by rw [con_ints,hel,zLh];have:=zLA has;omega)) ?_
   rw [con_ints,hca,hel]
   refine Wk ?_
   rw [hserv _ has]
   refine zc9 rfl (fun hq=>?_) (fun hq=>?_)
   ·refine Wk ?_
    rw [hR _ (zMb (F:=fun s=>sels s a.l.length) hlt h9 hno hnj hq)]
    exact ⟨s.l[j],rfl,con_ints.trans hel,hos,(zKW ms hltj).back hle⟩
   ·refine Wk ?_
    refine ⟨j+1,[0],⟨hltj,fun y hy=>?_⟩,by omega,?_⟩
    ·rw [List.take_succ_eq_append_getElem h9] at hy
     rcases List.mem_append.1 hy with hy|hy
     ·exact hnj y hy
     ·rw [List.mem_singleton.1 hy];exact hq
    refine Evs ?_
    exact Gi (zjA hltj (by omega))
  ·have hgej:=zjI hdj
   refine Wk ?_
   refine ⟨(f+1,h1),[0],⟨hlt,fun y hy=>?_,le01⟩,by simp only;omega,?_⟩
   ·rw [List.range_succ,List.flatMap_append] at hy
    rcases List.mem_append.1 hy with hy|hy
    ·exact hno y hy
    ·rw [List.flatMap_cons,List.flatMap_nil,List.append_nil] at hy
     rw [List.take_of_length_le (by omega)] at hnj
     exact hnj y hy
   refine Evs ?_
   exact Gi (zjA (n:=64) (k:=f) (by omega) (by omega))
 ·have hge:=zjI hd
  have hfe:f=a.l.length+1:=by omega
  rw [hfe] at hno
  rw [hR _ (zMc hno)]
  refine Wk ?_
  exact ⟨⟨none,0,[]⟩,rfl,rfl,znp,Mine.nil⟩
theorem zMt (x:DHarbour) (a:Sl DCall) (s:Sl Int) (p q:Nat) (h:Hp) (hp:h.lds (some ⟨p,0,none⟩) 12=some [.int .i64 x.forecast.tide.mean,x.forecast.tide.parts.val,x.forecast.surges.val,x.chart.points.val,x.chart.segments.val,x.fleet.val,.int .i64 x.regime.gap,.bool x.regime.noMeet,.int .i64 x.crew.tugs,.int .i64 x.crew.pilots,.int .i64 x.crew.rest,x.crew.moves.val]) (hq:h.lds (some ⟨q,0,none⟩) 1=some [a.val]) (hx:Enc.ok h x) (ha:a.Ok h) (hs:s.Ok h) (hz:Sz.sz (Con.con s)≤1048576):Ct jV 88 [s.val,.pointer (some ⟨p,0,none⟩),.pointer (some ⟨q,0,none⟩)] h fun v h'=>v=.bool (zLK (Con.con x) a.l s.l)∧h'=h:=by
 have hca:Con.con a=a.l:=zAQ a
 have hcs:Con.con s=s.l:=con_ints
 refine zdn (fun A W=>by simp) Tryz.func88 rfl rfl (by simp) fun W0=>?_
 repeat' first|refine Wa ?_|refine zhF (fun _=>zLM x a s _ hx ha hs hz) ?_|(simp only [go_sem,jq,jj,jy,jv,jk,jx,hp,hq];try rfl)|refine Wb ?_|fail
 try rw [hca,hcs]
set_option maxRecDepth 30000 in
theorem zMu (a:Sl DCall) (fn:Nat) (cs:List Value) (P:List Nat→Bool) (h:Hp) (ha:a.Ok h) (h6:a.l.length≤6) (hf:∀ (s:Sl Int) (w:List Nat) (h':Hp),h.le h'→s.Ok h'→s.l=zs w→Asc a.l.length w→Ct jV fn ([s.val] ++ cs) h' fun v h2=>v=.bool (P w)∧h2=h') :
  Ct jV 87 [a.val,.func (.func fn) #[] cs.toArray] h fun v h'=>∃ s:Sl Int,v=s.val∧s.l=zs (((zLy a.l.length).find? P).getD [])∧s.Ok h'∧Mine h h' s:=by
 obtain ⟨r,hr⟩:∃ r,(zLy a.l.length).find? P=r:=⟨_,rfl⟩
 rw [hr]
 rw [zLy] at hr
 refine zdn (fun A W=>by simp) Tryz.func87 rfl rfl (by simp) fun W0=>?_
 refine Wk ?_
 refine zm1 (ι:=Nat × Hp) (fun t=>⟨[(0,true,.c (.v a.val)),(1,true,.c (.v (.func (.func fn) #[] cs.toArray))),(4,true,.c (.v (.slice none 0 0))),(5,true,.c (.v (.int .i64 ((a.l.length:Int) - t.1))))],[],t.2,0⟩) (fun t=>t.1≤a.l.length+1∧(∀ y ∈ (List.range t.1).flatMap (fun s=>sels (a.l.length - s) a.l.length),P y=false)∧h.le t.2) (fun t=>a.l.length+1 - t.1) (0,h) ⟨Nat.zero_le _,fun y hy=>(by cases hy),Hp.le_refl _⟩ [] ?_ ?_
 ·refine Evs ?_
  repeat' first|exact zjB (by simp)|exact rfl|exact trivial|assumption|decide|refine And.intro ?_ ?_
 rintro ⟨f,hk⟩ ⟨hf9,hno,hle⟩
 simp only at hf9 hno hle
 refine Wk ?_
 refine zc9 rfl (fun hd=>?_) (fun hd=>?_)
 ·have hd9:(0:Int)≤(a.l.length:Int) - f:=of_decide_eq_true hd
  have hlt:f < a.l.length+1:=by omega
  have hsz:((a.l.length:Int) - f)=((a.l.length - f:Nat):Int):=by omega
  have hwn:IntKind.i64.wrap (((a.l.length - f:Nat):Int) - 1)=(a.l.length:Int) - ((f+1:Nat):Int):=by rw [zjz (by omega)];omega
  rw [hsz]
  refine Wk ?_
  refine zkr (zL8 (a.l.length - f) a.l.length _ h6 (by omega)) rfl ?_
  rintro v h1 le1 ⟨s,rfl,es,oks,ms⟩
  have hsl:s.l.length=(sels (a.l.length - f) a.l.length).length:=zKG es
  have le01:=Hp.le_trans hle le1
  have hs64:=zLI (n:=a.l.length) h6 (s:=a.l.length - f)
  refine Wk ?_
  refine zm1 (ι:=Nat) (fun j=>⟨[(0,true,.c (.v a.val)),(1,true,.c (.v (.func (.func fn) #[] cs.toArray))),(4,true,.c (.v (.slice none 0 0))),(5,true,.c (.v (.int .i64 (a.l.length - f:Nat)))),(17,true,.c (.v s.val)),(18,true,.c (.v (.int .i64 s.l.length))),(19,true,.c (.v (.int .i64 j)))],[],h1,0⟩) (fun j=>j≤s.l.length∧∀ y ∈ (sels (a.l.length - f) a.l.length).take j,P y=false) (fun j=>s.l.length - j) 0 ⟨Nat.zero_le _,fun y hy=>(by cases hy)⟩ [] ?_ ?_
  ·refine Evs ?_
   exact Gk
  rintro j ⟨hj,hnj⟩
  refine Wk ?_
  refine zc9 rfl (fun hdj=>?_) (fun hdj=>?_)
  ·have hltj:=zjH hdj
   have h9:j < (sels (a.l.length - f) a.l.length).length:=by omega
   have hel:s.l[j].l=zs (sels (a.l.length - f) a.l.length)[j]:=zKF es hltj h9
   have has:=(zLm.1 (List.getElem_mem h9)).2
   have hos:s.l[j].Ok h1:=Sl.Ok.el oks hltj
   repeat' first|refine Wa ?_|(simp only [go_sem,jq,jj,jy,jv,jk,jx,zkQ oks hltj,oks.some hltj,hltj,jW];try rfl)|refine Wb ?_|fail
   refine zhF (fun _=>hf s.l[j] _ _ le01 hos hel has) ?_
   refine Wk ?_
   refine zc9 rfl (fun hq=>?_) (fun hq=>?_)
   ·refine Wk ?_
    rw [← hr,zMb (F:=fun s=>sels (a.l.length - s) a.l.length) hlt h9 hno hnj hq]
    exact ⟨s.l[j],rfl,hel,hos,(zKW ms hltj).back hle⟩
   ·refine Wk ?_
    refine ⟨j+1,[],⟨hltj,fun y hy=>?_⟩,by omega,?_⟩
    ·rw [List.take_succ_eq_append_getElem h9] at hy
     rcases List.mem_append.1 hy with hy|hy
     ·exact hnj y hy
     ·rw [List.mem_singleton.1 hy];exact hq
    refine Evs ?_
    exact Gi (zjA hltj (by omega))
  ·have hgej:=zjI hdj
   refine Wk ?_
   refine ⟨(f+1,h1),[],⟨hlt,fun y hy=>?_,le01⟩,by simp only;omega,?_⟩
   ·rw [List.range_succ,List.flatMap_append] at hy
    rcases List.mem_append.1 hy with hy|hy
    ·exact hno y hy
    ·rw [List.flatMap_cons,List.flatMap_nil,List.append_nil] at hy
     rw [List.take_of_length_le (by omega)] at hnj
     exact hnj y hy
   refine Evs ?_
   rw [hwn]
   exact Gk
 ·have hge:¬ (0:Int)≤(a.l.length:Int) - f:=of_decide_eq_false hd
  have hfe:f=a.l.length+1:=by omega
  rw [hfe] at hno
  refine Wk ?_
  rw [← hr,zMc hno]
  exact ⟨⟨none,0,[]⟩,rfl,rfl,znp,Mine.nil⟩
set_option maxRecDepth 30000 in
theorem zMv (x:DHarbour) (a:Sl DCall) (h:Hp) (hx:Enc.ok h x) (ha:a.Ok h):Ct jV 40 [x.v,a.val] h fun v h'=>∃ s:Sl Int,v=s.val∧Con.con s=zMl (Con.con x) (Con.con a)∧s.Ok h'∧Mine h h' s:=by
 have hca:Con.con a=a.l:=zAQ a
 rw [hca]
 refine zdn (fun A W=>by simp) Tryz.func40 rfl rfl (by simp) fun W0=>?_
 repeat' first|refine Wa ?_|refine zhF (fun _=>zAS x a _ hx ha) ?_|(simp only [go_sem,jq,jj,jy,jv,jk,jx];try rfl)|refine Wb ?_|fail
 rw [hca]
 refine zc9 rfl (fun hc=>?_) (fun hc=>?_)
 ·rw [Bool.not_eq_true'] at hc
  rw [zMl,if_neg (by rw [hc];exact Bool.false_ne_true)]
  refine Wk ?_
  exact ⟨⟨none,0,[]⟩,rfl,rfl,znp,Mine.nil⟩
 rw [Bool.not_eq_false'] at hc
 have h6:=zJy hc
 rw [zMl,if_pos hc]
 obtain ⟨P,hserv,hR⟩:∃ P:List Nat→Bool,(∀ w,Asc a.l.length w→zLK (Con.con x) a.l (zs w)=P w)∧((zLy a.l.length).find? P).getD []=srvL (Con.con x) a.l:=by
  refine ⟨fun w=>QS (Con.con x) a.l w == true,fun w hw=>?_,by rw [srvL,zLF]⟩
  rw [zMj hc hw]
  show QS (Con.con x) a.l w=(QS (Con.con x) a.l w == true)
  cases QS (Con.con x) a.l w <;> rfl
 refine zc5 ?_
 refine Evs ?_
 refine zx5 0 rfl rfl fun p hp hop=>?_
 refine Evs ?_
 refine zx5 1 rfl rfl fun q hq hoq=>?_
 refine Evs ?_
 have le1:h.le (h.ins p (.cells #[.int .i64 x.forecast.tide.mean,x.forecast.tide.parts.val,x.forecast.surges.val,x.chart.points.val,x.chart.segments.val,x.fleet.val,.int .i64 x.regime.gap,.bool x.regime.noMeet,.int .i64 x.crew.tugs,.int .i64 x.crew.pilots,.int .i64 x.crew.rest,x.crew.moves.val] 58 (0,0))):=Hp.ins_le hp
 have le2:=Hp.le_trans le1 (Hp.ins_le (o:=.cells #[a.val] 60 (0,0)) hq)
 have hpq:p ≠ q:=fun e=>by rw [e] at hq;simp [Hp.ins] at hq
 have hl1:((h.ins p (.cells #[.int .i64 x.forecast.tide.mean,x.forecast.tide.parts.val,x.forecast.surges.val,x.chart.points.val,x.chart.segments.val,x.fleet.val,.int .i64 x.regime.gap,.bool x.regime.noMeet,.int .i64 x.crew.tugs,.int .i64 x.crew.pilots,.int .i64 x.crew.rest,x.crew.moves.val] 58 (0,0))).ins q (.cells #[a.val] 60 (0,0))).lds (some ⟨p,0,none⟩) 12=some [.int .i64 x.forecast.tide.mean,x.forecast.tide.parts.val,x.forecast.surges.val,x.chart.points.val,x.chart.segments.val,x.fleet.val,.int .i64 x.regime.gap,.bool x.regime.noMeet,.int .i64 x.crew.tugs,.int .i64 x.crew.pilots,.int .i64 x.crew.rest,x.crew.moves.val]:=zx7 (xs:=[.int .i64 x.forecast.tide.mean,x.forecast.tide.parts.val,x.forecast.surges.val,x.chart.points.val,x.chart.segments.val,x.fleet.val,.int .i64 x.regime.gap,.bool x.regime.noMeet,.int .i64 x.crew.tugs,.int .i64 x.crew.pilots,.int .i64 x.crew.rest,x.crew.moves.val]) (ty:=58) (by rw [Hp.ins_ne hpq,Hp.ins_same]) rfl (by simp)
 have hl2:((h.ins p (.cells #[.int .i64 x.forecast.tide.mean,x.forecast.tide.parts.val,x.forecast.surges.val,x.chart.points.val,x.chart.segments.val,x.fleet.val,.int .i64 x.regime.gap,.bool x.regime.noMeet,.int .i64 x.crew.tugs,.int .i64 x.crew.pilots,.int .i64 x.crew.rest,x.crew.moves.val] 58 (0,0))).ins q (.cells #[a.val] 60 (0,0))).lds (some ⟨q,0,none⟩) 1=some [a.val]:=zx7 (xs:=[a.val]) Hp.ins_same rfl (by simp)
 generalize (h.ins p (.cells #[.int .i64 x.forecast.tide.mean,x.forecast.tide.parts.val,x.forecast.surges.val,x.chart.points.val,x.chart.segments.val,x.fleet.val,.int .i64 x.regime.gap,.bool x.regime.noMeet,.int .i64 x.crew.tugs,.int .i64 x.crew.pilots,.int .i64 x.crew.rest,x.crew.moves.val] 58 (0,0))).ins q (.cells #[a.val] 60 (0,0))=h9 at hl1 hl2 le2 ⊢
 first|refine zyi [0,1,0,0] rfl ?_|refine zyh [0,1,0,0] rfl ?_|(refine zc3 ?_;first|refine zyi [0,1,0,0] rfl ?_|refine zyh [0,1,0,0] rfl ?_)
 simp only [go_sem,jq,jj,jy,jv,jk,jx,hl2,true_or,true_and]
 refine zkr (zMu a 88 [.pointer (some ⟨p,0,none⟩),.pointer (some ⟨q,0,none⟩)] P _ (ha.mono le2) h6 (fun s w h' hle hs hw has=>?_)) rfl ?_
 ·have e:P w=zLK (Con.con x) a.l s.l:=by rw [hw,hserv w has]
  rw [e]
  exact zMt x a s p q h' (zaf hle hl1) (zaf hle hl2) (Enc.mono (Hp.le_trans le2 hle) hx) (ha.mono (Hp.le_trans le2 hle)) hs (by rw [con_ints,hw,zLh];have:=zLA has;omega)
 rintro v h8 le8 ⟨s,rfl,es,oks,ms⟩
 rw [hR] at es
 refine Wk ?_
 exact ⟨s,rfl,con_ints.trans es,oks,ms.back le2⟩
set_option maxRecDepth 30000 in
theorem zMw (x:DHarbour) (a:Sl DCall) (h:Hp) (hx:Enc.ok h x) (ha:a.Ok h):Ct jV 30 [x.v,a.val] h fun v h'=>v=.int .i64 (zMp (Con.con x) (Con.con a))∧h'=h:=by
 have hca:Con.con a=a.l:=zAQ a
 refine Ct.forget ?_
 rw [hca]
 refine zdn (fun A W=>by simp) Tryz.func30 rfl rfl (by simp) fun W0=>?_
 repeat' first|refine Wa ?_|refine zhF (fun _=>zAS x a _ hx ha) ?_|(simp only [go_sem,jq,jj,jy,jv,jk,jx];try rfl)|refine Wb ?_|fail
 rw [hca]
 refine zc9 rfl (fun hc=>?_) (fun hc=>?_)
 ·rw [Bool.not_eq_true'] at hc
  rw [zMp,if_neg (by rw [hc];exact Bool.false_ne_true)]
  exact Wk0
 rw [Bool.not_eq_false'] at hc
 have h6:=zJy hc
 rw [zMp,if_pos hc]
 refine Wk ?_
 refine zkr (zMv x a _ hx ha) rfl ?_
 rintro v h1 le1 ⟨s,rfl,es,oks,ms⟩
 have hsl:=oks.max
 have hes:(zMl (Con.con x) a.l).length=s.l.length:=by rw [← hca,← es,con_ints]
 refine Wk ?_
 rw [hes,zjz (n:=(a.l.length:Int) - s.l.length) (by omega)]
set_option maxRecDepth 30000 in
theorem zMx (x:DHarbour) (a:Sl DCall) (h:Hp) (hx:Enc.ok h x) (ha:a.Ok h):Ct jV 29 [x.v,a.val] h fun v h'=>v=.int .i64 (zMp (Con.con x) (Con.con a))∧h'=h:=by
 have hca:Con.con a=a.l:=zAQ a
 refine Ct.forget ?_
 rw [hca]
 refine zdn (fun A W=>by simp) Tryz.func29 rfl rfl (by simp) fun W0=>?_
 repeat' first|refine Wa ?_|refine zhF (fun _=>zAR x a _ hx ha) ?_|(simp only [go_sem,jq,jj,jy,jv,jk,jx];try rfl)|refine Wb ?_|fail
 rw [hca]
 refine zc9 rfl (fun hc=>?_) (fun hc=>?_)
 ·rw [Bool.not_eq_true'] at hc
  rw [zMp,if_neg (by rw [hc];exact Bool.false_ne_true)]
  exact Wk0
 rw [Bool.not_eq_false'] at hc
 have h6:=zJy hc
 rw [zMp,if_pos hc]
 refine Wk ?_
 refine zkr (zMr x a _ hx ha) rfl ?_
 rintro v h1 le1 ⟨s,rfl,es,oks,ms⟩
 have hsl:=oks.max
 have hes:(zMl (Con.con x) a.l).length=s.l.length:=by rw [← hca,← es,con_ints]
 refine Wk ?_
 rw [hes,zjz (n:=(a.l.length:Int) - s.l.length) (by omega)]
open Go Go.SL Go.RowKit Go.ChangeShapes Go.WideShapes Go.ChangeAt Go.Deep
theorem Tryz.own:ownKnob Tryz.prog.godebug=none:=by kernel_rfl
theorem Tryz.laidOut:laidOutB jV=true:=by kernel_rfl
theorem zMy:Tryz.prog.cellsOf 3=1:=by kernel_rfl
theorem zMz:Tryz.prog.cellsOf 4=1:=by kernel_rfl
theorem zMA:Tryz.prog.cellsOf 9=1:=by kernel_rfl
theorem zMB:Opens Int jV 3:=zkv Tryz.underlying3
set_option maxRecDepth 100000 in
theorem zMC:Opens DCall jV 107:=by
 intro H enc w base spare held fuel cs x h
 obtain ⟨hl,hf⟩:=zkx Tryz.underlying107 h
 have hl:cs.length=5:=hl.trans (by kernel_rfl)
 match cs,hl with
 | [c0,c1,c2,c3,c4],_ =>
  obtain ⟨a0,e0,o0⟩:=zlC Tryz.underlying3 hf 0 0 ⟨_,rfl,rfl,rfl⟩ zMy
  have e0:[c0]=[.int .i64 a0]:=e0
  obtain ⟨a1,e1,o1⟩:=zlC Tryz.underlying3 hf 1 1 ⟨_,rfl,rfl,rfl⟩ zMy
  have e1:[c1]=[.int .i64 a1]:=e1
  obtain ⟨a2,e2,o2⟩:=zlC Tryz.underlying3 hf 2 2 ⟨_,rfl,rfl,rfl⟩ zMy
  have e2:[c2]=[.int .i64 a2]:=e2
  obtain ⟨a3,e3,o3⟩:=zlC Tryz.underlying3 hf 3 3 ⟨_,rfl,rfl,rfl⟩ zMy
  have e3:[c3]=[.int .i64 a3]:=e3
  obtain ⟨a4,e4,o4⟩:=zlC Tryz.underlying3 hf 4 4 ⟨_,rfl,rfl,rfl⟩ zMy
  have e4:[c4]=[.int .i64 a4]:=e4
  have ee:[c0] ++ [c1] ++ [c2] ++ [c3] ++ [c4]=[.int .i64 a0] ++ [.int .i64 a1] ++ [.int .i64 a2] ++ [.int .i64 a3] ++ [.int .i64 a4]:=by rw [e0,e1,e2,e3,e4]
  exact ⟨⟨a0,a1,a2,a3,a4⟩,ee,o0,o1,o2,o3,o4⟩
theorem zMD:Opens (Sl DCall) jV 40:=zkw Tryz.underlying40 (by kernel_rfl) zMC
theorem zME:Tryz.prog.cellsOf 35=1:=by kernel_rfl
theorem opens_IntS:Opens (Sl Int) jV 35:=zkw Tryz.underlying35 (by kernel_rfl) zMB
theorem zMF:Tryz.prog.cellsOf 37=4:=by kernel_rfl
set_option maxRecDepth 100000 in
theorem opens_Crew:Opens DCrew jV 37:=by
 intro H enc w base spare held fuel cs x h
 obtain ⟨hl,hf⟩:=zkx Tryz.underlying37 h
 have hl:cs.length=4:=hl.trans (by kernel_rfl)
 match cs,hl with
 | [c0,c1,c2,c3],_ =>
  obtain ⟨a0,e0,o0⟩:=zlC Tryz.underlying3 hf 0 0 ⟨_,rfl,rfl,rfl⟩ zMy
  have e0:[c0]=[.int .i64 a0]:=e0
  obtain ⟨a1,e1,o1⟩:=zlC Tryz.underlying3 hf 1 1 ⟨_,rfl,rfl,rfl⟩ zMy
  have e1:[c1]=[.int .i64 a1]:=e1
  obtain ⟨a2,e2,o2⟩:=zlC Tryz.underlying3 hf 2 2 ⟨_,rfl,rfl,rfl⟩ zMy
  have e2:[c2]=[.int .i64 a2]:=e2
  obtain ⟨a3,e3,o3⟩:=opens_IntS.field hf 3 3 1 ⟨_,rfl,rfl,rfl⟩ zME
  have e3:[c3]=Enc.enc a3:=e3
  have ee:[c0] ++ [c1] ++ [c2] ++ [c3]=[.int .i64 a0] ++ [.int .i64 a1] ++ [.int .i64 a2] ++ Enc.enc a3:=by rw [e0,e1,e2,e3]
  exact ⟨⟨a0,a1,a2,a3⟩,ee,o0,o1,o2,o3⟩
set_option maxRecDepth 100000 in
theorem zMG:Opens DPart jV 277:=by
 intro H enc w base spare held fuel cs x h
 obtain ⟨hl,hf⟩:=zkx Tryz.underlying277 h
 have hl:cs.length=3:=hl.trans (by kernel_rfl)
 match cs,hl with
 | [c0,c1,c2],_ =>
  obtain ⟨a0,e0,o0⟩:=zlC Tryz.underlying3 hf 0 0 ⟨_,rfl,rfl,rfl⟩ zMy
  have e0:[c0]=[.int .i64 a0]:=e0
  obtain ⟨a1,e1,o1⟩:=zlC Tryz.underlying3 hf 1 1 ⟨_,rfl,rfl,rfl⟩ zMy
  have e1:[c1]=[.int .i64 a1]:=e1
  obtain ⟨a2,e2,o2⟩:=zlC Tryz.underlying3 hf 2 2 ⟨_,rfl,rfl,rfl⟩ zMy
  have e2:[c2]=[.int .i64 a2]:=e2
  have ee:[c0] ++ [c1] ++ [c2]=[.int .i64 a0] ++ [.int .i64 a1] ++ [.int .i64 a2]:=by rw [e0,e1,e2]
  exact ⟨⟨a0,a1,a2⟩,ee,o0,o1,o2⟩
theorem zMH:Tryz.prog.cellsOf 22=1:=by kernel_rfl
theorem opens_PartS:Opens (Sl DPart) jV 22:=zkw Tryz.underlying22 (by kernel_rfl) zMG
theorem zMI:Tryz.prog.cellsOf 24=2:=by kernel_rfl
set_option maxRecDepth 100000 in
theorem opens_Tide:Opens DTide jV 24:=by
 intro H enc w base spare held fuel cs x h
 obtain ⟨hl,hf⟩:=zkx Tryz.underlying24 h
 have hl:cs.length=2:=hl.trans (by kernel_rfl)
 match cs,hl with
 | [c0,c1],_ =>
  obtain ⟨a0,e0,o0⟩:=zlC Tryz.underlying3 hf 0 0 ⟨_,rfl,rfl,rfl⟩ zMy
  have e0:[c0]=[.int .i64 a0]:=e0
  obtain ⟨a1,e1,o1⟩:=opens_PartS.field hf 1 1 1 ⟨_,rfl,rfl,rfl⟩ zMH
  have e1:[c1]=Enc.enc a1:=e1
  have ee:[c0] ++ [c1]=[.int .i64 a0] ++ Enc.enc a1:=by rw [e0,e1]
  exact ⟨⟨a0,a1⟩,ee,o0,o1⟩
set_option maxRecDepth 100000 in
theorem zMJ:Opens DSurge jV 227:=by
 intro H enc w base spare held fuel cs x h
 obtain ⟨hl,hf⟩:=zkx Tryz.underlying227 h
 have hl:cs.length=3:=hl.trans (by kernel_rfl)
 match cs,hl with
 | [c0,c1,c2],_ =>
  obtain ⟨a0,e0,o0⟩:=zlC Tryz.underlying3 hf 0 0 ⟨_,rfl,rfl,rfl⟩ zMy
  have e0:[c0]=[.int .i64 a0]:=e0
  obtain ⟨a1,e1,o1⟩:=zlC Tryz.underlying3 hf 1 1 ⟨_,rfl,rfl,rfl⟩ zMy
  have e1:[c1]=[.int .i64 a1]:=e1
  obtain ⟨a2,e2,o2⟩:=zlC Tryz.underlying3 hf 2 2 ⟨_,rfl,rfl,rfl⟩ zMy
  have e2:[c2]=[.int .i64 a2]:=e2
  have ee:[c0] ++ [c1] ++ [c2]=[.int .i64 a0] ++ [.int .i64 a1] ++ [.int .i64 a2]:=by rw [e0,e1,e2]
  exact ⟨⟨a0,a1,a2⟩,ee,o0,o1,o2⟩
theorem zMK:Tryz.prog.cellsOf 25=1:=by kernel_rfl
theorem opens_SurgeS:Opens (Sl DSurge) jV 25:=zkw Tryz.underlying25 (by kernel_rfl) zMJ
theorem zML:Tryz.prog.cellsOf 27=3:=by kernel_rfl
set_option maxRecDepth 100000 in
theorem opens_Forecast:Opens DForecast jV 27:=by
 intro H enc w base spare held fuel cs x h
 obtain ⟨hl,hf⟩:=zkx Tryz.underlying27 h
 have hl:cs.length=3:=hl.trans (by kernel_rfl)
 match cs,hl with
 | [c0,c1,c2],_ =>
  obtain ⟨a0,e0,o0⟩:=opens_Tide.field hf 0 0 2 ⟨_,rfl,rfl,rfl⟩ zMI
  have e0:[c0,c1]=Enc.enc a0:=e0
  obtain ⟨a1,e1,o1⟩:=opens_SurgeS.field hf 1 2 1 ⟨_,rfl,rfl,rfl⟩ zMK
  have e1:[c2]=Enc.enc a1:=e1
  have ee:[c0,c1] ++ [c2]=Enc.enc a0 ++ Enc.enc a1:=by rw [e0,e1]
  exact ⟨⟨a0,a1⟩,ee,o0,o1⟩
set_option maxRecDepth 100000 in
theorem zMM:Opens DPoint jV 216:=by
 intro H enc w base spare held fuel cs x h
 obtain ⟨hl,hf⟩:=zkx Tryz.underlying216 h
 have hl:cs.length=2:=hl.trans (by kernel_rfl)
 match cs,hl with
 | [c0,c1],_ =>
  obtain ⟨a0,e0,o0⟩:=zlE Tryz.underlying9 hf 0 0 ⟨_,rfl,rfl,rfl⟩ zMA
  have e0:[c0]=[.string a0]:=e0
  obtain ⟨a1,e1⟩:=zlD Tryz.underlying4 hf 1 1 ⟨_,rfl,rfl,rfl⟩ zMz
  have e1:[c1]=[.bool a1]:=e1
  have ee:[c0] ++ [c1]=[.string a0] ++ [.bool a1]:=by rw [e0,e1]
  exact ⟨⟨a0,a1⟩,ee,o0⟩
theorem zMN:Tryz.prog.cellsOf 28=1:=by kernel_rfl
theorem opens_PointS:Opens (Sl DPoint) jV 28:=zkw Tryz.underlying28 (by kernel_rfl) zMM
set_option maxRecDepth 100000 in
theorem zMO:Opens DSegment jV 233:=by
 intro H enc w base spare held fuel cs x h
 obtain ⟨hl,hf⟩:=zkx Tryz.underlying233 h
 have hl:cs.length=5:=hl.trans (by kernel_rfl)
 match cs,hl with
 | [c0,c1,c2,c3,c4],_ =>
  obtain ⟨a0,e0,o0⟩:=zlC Tryz.underlying3 hf 0 0 ⟨_,rfl,rfl,rfl⟩ zMy
  have e0:[c0]=[.int .i64 a0]:=e0
  obtain ⟨a1,e1,o1⟩:=zlC Tryz.underlying3 hf 1 1 ⟨_,rfl,rfl,rfl⟩ zMy
  have e1:[c1]=[.int .i64 a1]:=e1
  obtain ⟨a2,e2,o2⟩:=zlC Tryz.underlying3 hf 2 2 ⟨_,rfl,rfl,rfl⟩ zMy
  have e2:[c2]=[.int .i64 a2]:=e2
  obtain ⟨a3,e3,o3⟩:=zlC Tryz.underlying3 hf 3 3 ⟨_,rfl,rfl,rfl⟩ zMy
  have e3:[c3]=[.int .i64 a3]:=e3
  obtain ⟨a4,e4⟩:=zlD Tryz.underlying4 hf 4 4 ⟨_,rfl,rfl,rfl⟩ zMz
  have e4:[c4]=[.bool a4]:=e4
  have ee:[c0] ++ [c1] ++ [c2] ++ [c3] ++ [c4]=[.int .i64 a0] ++ [.int .i64 a1] ++ [.int .i64 a2] ++ [.int .i64 a3] ++ [.bool a4]:=by rw [e0,e1,e2,e3,e4]
  exact ⟨⟨a0,a1,a2,a3,a4⟩,ee,o0,o1,o2,o3⟩
theorem zMP:Tryz.prog.cellsOf 29=1:=by kernel_rfl
theorem opens_SegmentS:Opens (Sl DSegment) jV 29:=zkw Tryz.underlying29 (by kernel_rfl) zMO
theorem zMQ:Tryz.prog.cellsOf 31=2:=by kernel_rfl
set_option maxRecDepth 100000 in
theorem opens_Chart:Opens DChart jV 31:=by
 intro H enc w base spare held fuel cs x h
 obtain ⟨hl,hf⟩:=zkx Tryz.underlying31 h
 have hl:cs.length=2:=hl.trans (by kernel_rfl)
 match cs,hl with
 | [c0,c1],_ =>
  obtain ⟨a0,e0,o0⟩:=opens_PointS.field hf 0 0 1 ⟨_,rfl,rfl,rfl⟩ zMN
  have e0:[c0]=Enc.enc a0:=e0
  obtain ⟨a1,e1,o1⟩:=opens_SegmentS.field hf 1 1 1 ⟨_,rfl,rfl,rfl⟩ zMP
  have e1:[c1]=Enc.enc a1:=e1
  have ee:[c0] ++ [c1]=Enc.enc a0 ++ Enc.enc a1:=by rw [e0,e1]
  exact ⟨⟨a0,a1⟩,ee,o0,o1⟩
set_option maxRecDepth 100000 in
theorem zMR:Opens DShip jV 162:=by
 intro H enc w base spare held fuel cs x h
 obtain ⟨hl,hf⟩:=zkx Tryz.underlying162 h
 have hl:cs.length=6:=hl.trans (by kernel_rfl)
 match cs,hl with
 | [c0,c1,c2,c3,c4,c5],_ =>
  obtain ⟨a0,e0,o0⟩:=zlE Tryz.underlying9 hf 0 0 ⟨_,rfl,rfl,rfl⟩ zMA
  have e0:[c0]=[.string a0]:=e0
  obtain ⟨a1,e1,o1⟩:=zlC Tryz.underlying3 hf 1 1 ⟨_,rfl,rfl,rfl⟩ zMy
  have e1:[c1]=[.int .i64 a1]:=e1
  obtain ⟨a2,e2,o2⟩:=zlC Tryz.underlying3 hf 2 2 ⟨_,rfl,rfl,rfl⟩ zMy
  have e2:[c2]=[.int .i64 a2]:=e2
  obtain ⟨a3,e3,o3⟩:=zlC Tryz.underlying3 hf 3 3 ⟨_,rfl,rfl,rfl⟩ zMy
  have e3:[c3]=[.int .i64 a3]:=e3
  obtain ⟨a4,e4,o4⟩:=zlC Tryz.underlying3 hf 4 4 ⟨_,rfl,rfl,rfl⟩ zMy
  have e4:[c4]=[.int .i64 a4]:=e4
  obtain ⟨a5,e5⟩:=zlD Tryz.underlying4 hf 5 5 ⟨_,rfl,rfl,rfl⟩ zMz
  have e5:[c5]=[.bool a5]:=e5
  have ee:[c0] ++ [c1] ++ [c2] ++ [c3] ++ [c4] ++ [c5]=[.string a0] ++ [.int .i64 a1] ++ [.int .i64 a2] ++ [.int .i64 a3] ++ [.int .i64 a4] ++ [.bool a5]:=by rw [e0,e1,e2,e3,e4,e5]
  exact ⟨⟨a0,a1,a2,a3,a4,a5⟩,ee,o0,o1,o2,o3,o4⟩
theorem zMS:Tryz.prog.cellsOf 32=1:=by kernel_rfl
theorem opens_ShipS:Opens (Sl DShip) jV 32:=zkw Tryz.underlying32 (by kernel_rfl) zMR
theorem zMT:Tryz.prog.cellsOf 34=2:=by kernel_rfl
set_option maxRecDepth 100000 in
theorem opens_Regime:Opens DRegime jV 34:=by
 intro H enc w base spare held fuel cs x h
 obtain ⟨hl,hf⟩:=zkx Tryz.underlying34 h
 have hl:cs.length=2:=hl.trans (by kernel_rfl)
 match cs,hl with
 | [c0,c1],_ =>
  obtain ⟨a0,e0,o0⟩:=zlC Tryz.underlying3 hf 0 0 ⟨_,rfl,rfl,rfl⟩ zMy
  have e0:[c0]=[.int .i64 a0]:=e0
  obtain ⟨a1,e1⟩:=zlD Tryz.underlying4 hf 1 1 ⟨_,rfl,rfl,rfl⟩ zMz
  have e1:[c1]=[.bool a1]:=e1
  have ee:[c0] ++ [c1]=[.int .i64 a0] ++ [.bool a1]:=by rw [e0,e1]
  exact ⟨⟨a0,a1⟩,ee,o0⟩
set_option maxRecDepth 100000 in
theorem zMU:Opens DHarbour jV 39:=by
 intro H enc w base spare held fuel cs x h
 obtain ⟨hl,hf⟩:=zkx Tryz.underlying39 h
 have hl:cs.length=12:=hl.trans (by kernel_rfl)
 match cs,hl with
 | [c0,c1,c2,c3,c4,c5,c6,c7,c8,c9,c10,c11],_ =>
  obtain ⟨a0,e0,o0⟩:=opens_Forecast.field hf 0 0 3 ⟨_,rfl,rfl,rfl⟩ zML
  have e0:[c0,c1,c2]=Enc.enc a0:=e0
  obtain ⟨a1,e1,o1⟩:=opens_Chart.field hf 1 3 2 ⟨_,rfl,rfl,rfl⟩ zMQ
  have e1:[c3,c4]=Enc.enc a1:=e1
  obtain ⟨a2,e2,o2⟩:=opens_ShipS.field hf 2 5 1 ⟨_,rfl,rfl,rfl⟩ zMS
  have e2:[c5]=Enc.enc a2:=e2
  obtain ⟨a3,e3,o3⟩:=opens_Regime.field hf 3 6 2 ⟨_,rfl,rfl,rfl⟩ zMT
  have e3:[c6,c7]=Enc.enc a3:=e3
  obtain ⟨a4,e4,o4⟩:=opens_Crew.field hf 4 8 4 ⟨_,rfl,rfl,rfl⟩ zMF
  have e4:[c8,c9,c10,c11]=Enc.enc a4:=e4
  have ee:[c0,c1,c2] ++ [c3,c4] ++ [c5] ++ [c6,c7] ++ [c8,c9,c10,c11]=Enc.enc a0 ++ Enc.enc a1 ++ Enc.enc a2 ++ Enc.enc a3 ++ Enc.enc a4:=by rw [e0,e1,e2,e3,e4]
  exact ⟨⟨a0,a1,a2,a3,a4⟩,ee,o0,o1,o2,o3,o4⟩
end Go.Proofs.YtdejfjdbcggilaaGreat
