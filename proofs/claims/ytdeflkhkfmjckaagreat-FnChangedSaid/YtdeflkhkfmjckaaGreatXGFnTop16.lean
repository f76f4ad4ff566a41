/- What functions of the given program compute, as contracts. -/
import Derived.Test.YtdeflkhkfmjckaaGreatSGFnTopx15
import Derived.Test.YtdeflkhkfmjckaaGreatSGFnTopx5
import Derived.Test.YtdeflkhkfmjckaaGreatXGFnTop12
import Derived.Test.YtdeflkhkfmjckaaGreatXGFnTop13
import Derived.Test.YtdeflkhkfmjckaaGreatXGFnTop14
import Derived.Test.YtdeflkhkfmjckaaGreatXGFnTop6
import Derived.Test.YtdeflkhkfmjckaaGreatXGFnTop7
import Derived.Test.YtdeflkhkfmjckaaGreatXGFnTop8
import Derived.Test.YtdeflkhkfmjckaaGreatXGFnTop9
set_option linter.unusedVariables false
set_option linter.unusedSimpArgs false
set_option maxRecDepth 4000
open Nat renaming reduceAdd → jq, reduceMul → jj, reduceBEq → jy, reduceLeDiff → jv, reduceLT → jk, reduceEqDiff → jx
open Bool renaming or_eq_false_iff → jp, or_eq_true → jQ, and_eq_true → jJ
open Int renaming toNat_natCast → jW, natCast_nonneg → jY
open Go.Proofs.Tryz renaming prog → jV
namespace Go.Proofs.YtdeflkhkfmjckaaGreat
open Go Go.SL
set_option maxHeartbeats 1000000
def zMU (x:zFc) (a:List DCall):Bool:=(zLC x a).2.2
def zMV (x:zFc) (a:List DCall) (l:List Int):Bool:=zJJ x a && decide (Sel a.length l) && zMU x (zKC a l)
def zMW (x:zFc) (a:List DCall) (l:List Int):Bool:=zJJ x a && decide (Sel a.length l) && !zMV x a l && decide (∀ i,i < l.length→zMV x a (l.take i ++ l.drop (i+1))=true)
theorem zMX (x:DHarbour) (a:Sl DCall) (h:Hp) (hx:Enc.ok h x) (ha:a.Ok h):Ct jV 21 [x.v,a.val] h fun v h'=>v=.bool (zMU (Con.con x) (Con.con a))∧h'=h:=by
 refine Ct.forget ?_
 refine zdn (fun A W=>by simp) Tryz.func21 rfl rfl (by simp) fun W0=>?_
 refine Wk ?_
 refine zkj (zMw x a _ hx ha) rfl ?_
 rintro v h1 le1 ⟨s,rfl,es,oks,ms⟩
 refine Evs ?_
 exact Wk0
set_option maxRecDepth 30000 in
theorem zMY (x:DHarbour) (a:Sl DCall) (l:Sl Int) (h:Hp) (hx:Enc.ok h x) (ha:a.Ok h) (hl:l.Ok h) (hz:Sz.sz (Con.con l)≤1048576):Ct jV 35 [x.v,a.val,l.val] h fun v h'=>v=.bool (zMV (Con.con x) (Con.con a) (Con.con l))∧h'=h:=by
 have hla:=ha.max
 have hll:=hl.max
 have hcl:Con.con l=l.l:=con_ints
 have hca:Con.con a=a.l:=zJK a
 refine Ct.forget ?_
 rw [zMV,hca,hcl]
 refine zdn (fun A W=>by simp) Tryz.func35 rfl rfl (by simp) fun W0=>?_
 refine Wk ?_
 cases hc:zJJ (Con.con x) a.l with
 | false =>
  refine znv rfl ?_
  refine U_t [0,1] rfl ?_
  simp only [go_sem,jq,jj,jy,jv,jk,jx,hc]
  refine U_1 2 0 [] rfl rfl ?_
  simp only [go_sem,jq,jj,jy,jv,jk,jx,hc]
  refine zhF (fun _=>zJL x a _ hx ha) ?_
  rw [zJK]
  simp only [go_sem,jq,jj,jy,jv,jk,jx,hc]
  refine U_t [3,4,5] rfl ?_
  simp only [go_sem,jq,jj,jy,jv,jk,jx,hc]
  refine U_1 6 0 [] rfl rfl ?_
  simp only [go_sem,jq,jj,jy,jv,jk,jx,hc]
  refine zhF (V:=.bool false) (fun e=>by cases e) ?_
  simp only [go_sem,jq,jj,jy,jv,jk,jx,hc]
  refine U_t [7,8,9,10,11] rfl ?_
  simp only [go_sem,jq,jj,jy,jv,jk,jx,hc]
  refine U_1 12 0 [9] rfl rfl ?_
  simp only [go_sem,jq,jj,jy,jv,jk,jx,hc]
  refine zhF (V:=.slice none 0 0) (fun e=>by cases e) ?_
  simp only [go_sem,jq,jj,jy,jv,jk,jx,hc]
  refine U_1 13 0 [] rfl rfl ?_
  simp only [go_sem,jq,jj,jy,jv,jk,jx,hc]
  refine zhF (V:=.bool false) (fun e=>by cases e) ?_
  simp only [go_sem,jq,jj,jy,jv,jk,jx,hc]
  refine U_t [14,15] rfl ?_
  simp only [go_sem,jq,jj,jy,jv,jk,jx,hc]
  refine U_d ?_
  exact Wk0
 | true =>
  cases hs:decide (Sel a.l.length l.l) with
  | false =>
   refine znv rfl ?_
   refine U_t [0,1] rfl ?_
   simp only [go_sem,jq,jj,jy,jv,jk,jx,hc,hs]
   refine U_1 2 0 [] rfl rfl ?_
   simp only [go_sem,jq,jj,jy,jv,jk,jx,hc,hs]
   refine zhF (fun _=>zJL x a _ hx ha) ?_
   rw [zJK]
   simp only [go_sem,jq,jj,jy,jv,jk,jx,hc]
   refine U_t [3,4,5] rfl ?_
   simp only [go_sem,jq,jj,jy,jv,jk,jx,hc,hs]
   refine U_1 6 0 [] rfl rfl ?_
   simp only [go_sem,jq,jj,jy,jv,jk,jx,hc,hs]
   refine zhF (fun _=>zKB a l _ ha hl) ?_
   simp only [go_sem,jq,jj,jy,jv,jk,jx,hc,hs]
   refine U_t [7,8,9,10,11] rfl ?_
   simp only [go_sem,jq,jj,jy,jv,jk,jx,hc,hs]
   refine U_1 12 0 [9] rfl rfl ?_
   simp only [go_sem,jq,jj,jy,jv,jk,jx,hc,hs]
   refine zhF (V:=.slice none 0 0) (fun e=>by cases e) ?_
   simp only [go_sem,jq,jj,jy,jv,jk,jx,hc,hs]
   refine U_1 13 0 [] rfl rfl ?_
   simp only [go_sem,jq,jj,jy,jv,jk,jx,hc,hs]
   refine zhF (V:=.bool false) (fun e=>by cases e) ?_
   simp only [go_sem,jq,jj,jy,jv,jk,jx,hc,hs]
   refine U_t [14,15] rfl ?_
   simp only [go_sem,jq,jj,jy,jv,jk,jx,hc,hs]
   refine U_d ?_
   exact Wk0
  | true =>
   refine znv rfl ?_
   refine U_t [0,1] rfl ?_
   simp only [go_sem,jq,jj,jy,jv,jk,jx,hc,hs]
   refine U_1 2 0 [] rfl rfl ?_
   simp only [go_sem,jq,jj,jy,jv,jk,jx,hc,hs]
   refine zhF (fun _=>zJL x a _ hx ha) ?_
   rw [zJK]
   simp only [go_sem,jq,jj,jy,jv,jk,jx,hc]
   refine U_t [3,4,5] rfl ?_
   simp only [go_sem,jq,jj,jy,jv,jk,jx,hc,hs]
   refine U_1 6 0 [] rfl rfl ?_
   simp only [go_sem,jq,jj,jy,jv,jk,jx,hc,hs]
   refine zhF (fun _=>zKB a l _ ha hl) ?_
   simp only [go_sem,jq,jj,jy,jv,jk,jx,hc,hs]
   refine U_t [7,8,9,10,11] rfl ?_
   simp only [go_sem,jq,jj,jy,jv,jk,jx,hc,hs]
   refine U_1 12 0 [9] rfl rfl ?_
   simp only [go_sem,jq,jj,jy,jv,jk,jx,hc,hs]
   refine zkj (zKD a l _ ha hl hz) rfl ?_
   rintro v h1 le1 ⟨s,rfl,es,oks,ms⟩
   simp only [go_sem,jq,jj,jy,jv,jk,jx,hc,hs]
   refine U_1 13 0 [] rfl rfl ?_
   simp only [go_sem,jq,jj,jy,jv,jk,jx,hc,hs]
   refine zhF (fun _=>zMX x s _ (Enc.mono le1 hx) oks) ?_
   rw [es,hca,hcl]
   simp only [go_sem,jq,jj,jy,jv,jk,jx,hc,hs]
   refine U_t [14,15] rfl ?_
   simp only [go_sem,jq,jj,jy,jv,jk,jx,hc,hs]
   refine U_d ?_
   exact Wk0
theorem zMZ {α:Type} {l:List α} {i:Nat} {d:α} (h:i < l.length):l.getD i d=l[i]:=by simp [List.getD_eq_getElem?_getD,h]
theorem zM0 {α:Type} {l:List α} {i:Nat} {d:α} (h:l.length≤i):l.getD i d=d:=by simp [List.getD_eq_getElem?_getD,h]
theorem zM1 {L:List (List POption)} {ch:List Int} (hL:∀ l ∈ L,∀ y ∈ l,Sz.sz y≤8):∀ {k:Nat} {p:List POption},plGo L ch k=some p→p.length=k∧∀ y ∈ p,Sz.sz y≤8
 | 0,p,h=>by rw [plGo] at h;cases h;exact ⟨rfl,fun y hy=>by cases hy⟩
 | k+1,p,h=>by
  rw [plGo] at h
  obtain ⟨q,hq,h⟩:=Option.bind_eq_some_iff.1 h
  rw [zKJ] at h
  split at h
  ·rename_i hb
   obtain rfl:=Option.some.inj h
   obtain ⟨h1,h2⟩:=zM1 hL hq
   refine ⟨by rw [List.length_append,h1];rfl,fun y hy=>?_⟩
   rcases List.mem_append.1 hy with hy|hy
   ·exact h2 y hy
   ·rw [List.mem_singleton.1 hy]
    have hc:(ch.getD k 0).toNat < (L.getD k []).length:=by omega
    rw [zMZ hc]
    refine hL (L.getD k []) ?_ _ (List.getElem_mem hc)
    by_cases hk:k < L.length
    ·rw [zMZ hk];exact List.getElem_mem hk
    ·rw [zM0 (l:=L) (i:=k) (d:=[]) (by omega)] at hc;exact absurd hc (Nat.not_lt_zero _)
  ·cases h
theorem zM2 {x:zFc} {a:List DCall} {ch:List Int}:(zKK x a ch).1.length≤6∧∀ y ∈ (zKK x a ch).1,Sz.sz y≤8:=by
 rw [zKK]
 split
 ·rename_i hc
  have hl:=zKv (Bool.and_eq_true_iff.1 hc).1
  cases hp:plGo (zKs x a) ch a.length with
  | none=>exact ⟨Nat.zero_le _,fun y hy=>by cases hy⟩
  | some s =>
   obtain ⟨h1,h2⟩:=zM1 (fun l hl y hy=>by
    rw [zKs] at hl
    obtain ⟨c,-,rfl⟩:=List.mem_map.1 hl
    exact (zzi).2 y hy) hp
   exact ⟨by rw [oLB];simp only;omega,h2⟩
 ·exact ⟨Nat.zero_le _,fun y hy=>by cases hy⟩
theorem zM3 (x:zFc) (a:List DCall) (ch:List Int):Sz.sz (zKK x a ch).1≤1048576:=by
 obtain ⟨h1,h2⟩:=zM2 (x:=x) (a:=a) (ch:=ch)
 have:=zJY h2
 omega
theorem zM4 (x:DHarbour) (a:Sl DCall) (m:Sl Int) (h:Hp) (hx:Enc.ok h x) (ha:a.Ok h) (hm:m.Ok h):Ct jV 9 [x.v,a.val,m.val] h fun v h'=>∃ s:Sl DOption,v=.tuple #[s.val,.bool (zKK (Con.con x) (Con.con a) (Con.con m)).2]∧Con.con s=(zKK (Con.con x) (Con.con a) (Con.con m)).1∧s.Ok h'∧Mine h h' s:=by
 have h1:(Con.con a:List DCall)=a.l:=List.map_id _
 have h2:(Con.con m:List Int)=m.l:=List.map_id _
 rw [h1,h2]
 exact zKS x a m h hx ha hm
theorem zM5 {l:List Nat} {k:Nat} (h:k < l.length) (h2:k < (zs l).length):(zs l)[k]=((l[k]:Nat):Int):=by simp [zs]
theorem zM6 {a b:List Nat}:zs (a ++ b)=zs a ++ zs b:=by simp [zs]
theorem zM7 {l:List Nat} (h:∀ x ∈ l,x < 1000):∀ y ∈ zs l,I64 y:=fun y hy=>by
 obtain ⟨z,hz,rfl⟩:=List.mem_map.1 hy
 have:=h z hz
 show I64 _;unfold I64;omega
noncomputable def QS (x:zFc) (a:List DCall) (w:List Nat):Bool:=(zLB (zLz x (w.map fun k=>(zKs x a).getD k []))).2.2
def selG (size n f:Nat):List (List Nat):=(sels size (n - f - 1)).map fun r=>f :: r.map (f+1+·)
theorem zM8 {size n:Nat}:sels (size+1) n=(List.range n).flatMap (selG size n):=rfl
set_option maxRecDepth 30000 in
theorem zM9:∀ (size n:Nat) (h:Hp),n≤6→size≤100→Ct jV 34 [.int .i64 n,.int .i64 size] h fun v h'=>∃ s:Sl (Sl Int),v=s.val∧s.l.map (·.l)=(sels size n).map zs∧s.Ok h'∧Mine h h' s
 | 0,n,h,hn,_=>by
  refine zdn (fun A W=>by simp) Tryz.func34 rfl rfl (by simp) fun W0=>?_
  refine Wk ?_
  refine zc9 rfl (fun hq=>?_) (fun hq=>?_)
  case refine_2=>simp at hq
  first|refine zmR [2,0,0] rfl ?_|refine zmQ [2,0,0] rfl ?_|(refine zc3 ?_;first|refine zmR [2,0,0] rfl ?_|refine zmQ [2,0,0] rfl ?_)
  refine Evs ?_
  intro ad cap h1 P
  have P':Pub h 3 (Enc.size Int) ([]:List Int).length (([]:List Int).flatMap Enc.enc) ad cap h1:=P
  have ok1:(Sl.mk ad cap ([]:List Int)).Ok h1:=Pub.sl (l:=([]:List Int)) (by decide) P' (fun y hy=>(by cases hy))
  try simp only [go_sem,jq,jj,jy,jv,jk,jx]
  refine zlE 1 [Sl.mk ad cap ([]:List Int)] rfl rfl rfl rfl (by decide) (fun y hy=>by rw [List.mem_singleton.1 hy];exact ok1) h P'.le ⟨fun y hy=>by rw [List.mem_singleton.1 hy];exact (Mine.nil (h:=h) (h':=h1)).1,fun b hb=>(by cases hb),List.nodup_nil⟩ fun s h' e1 e2 e3 e4=>?_
  refine Wk ?_
  exact ⟨s,rfl,by rw [e1];rfl,e2,e4⟩
 | size+1,n,h,hn,hs100=>by
  refine zdn (fun A W=>by simp) Tryz.func34 rfl rfl (by simp) fun W0=>?_
  refine Wk ?_
  refine zc9 rfl (fun hq=>?_) (fun hq=>?_)
  ·have:=eq_of_beq hq
   omega
  refine Wk ?_
  refine zl0 (ι:=Nat × List (Sl Int) × Hp) (fun t=>match t with|(f,acc,hk)=>⟨[(0,true,.c (.v (.int .i64 n))),(1,true,.c (.v (.int .i64 (size+1:Nat)))),(4,true,.c (.v (.slice none 0 0))),(5,true,.c (.s 0)),(17,true,.c (.v (.int .i64 n))),(18,true,.c (.v (.int .i64 f)))],[(0,.row 36 1 acc.length (acc.flatMap Enc.enc))],hk,1⟩) (fun t=>t.1≤n∧t.2.1.map (·.l)=((List.range t.1).flatMap (selG size n)).map zs∧t.2.1.length≤64 * t.1∧(∀ y ∈ t.2.1,Enc.ok t.2.2 y)∧Mines h t.2.2 t.2.1∧h.le t.2.2) (fun t=>n - t.1) (0,[],h) ⟨Nat.zero_le _,rfl,Nat.zero_le _,fun y hy=>(by cases hy),Mines.nil,Hp.le_refl _⟩ [0] ?_ ?_
  ·refine Evs ?_
   exact Gk
  rintro ⟨f,acc,hk⟩ ⟨hf,hm,hal,hok,hmi,hle⟩
  simp only at hf hm hal hok hmi hle
  refine Wk ?_
  refine zc9 rfl (fun hd=>?_) (fun hd=>?_)
  ·have hlt:f < n:=zjH hd
   have hw1:IntKind.i64.wrap (IntKind.i64.wrap ((n:Int) - (f:Int)) - 1)=((n - f - 1:Nat):Int):=by rw [zjz (n:=(n:Int) - (f:Int)) (by omega),zjz (by omega)];omega
   have hw2:IntKind.i64.wrap (((size+1:Nat):Int) - 1)=((size:Nat):Int):=by rw [zjz (by omega)];omega
   repeat' first|refine Wa ?_|(simp only [go_sem,jq,jj,jy,jv,jk,jx,hw1,hw2];try rfl)|refine Wb ?_|fail
   refine zkj (zM9 size (n - f - 1) _ (by omega) (by omega)) rfl ?_
   rintro v h1 le1 ⟨s,rfl,es,oks,ms⟩
   have hsl:s.l.length=(sels size (n - f - 1)).length:=zMn es
   have hs64:=zMT (n:=n - f - 1) (by omega) (s:=size)
   refine Wk ?_
   refine zl0 (ι:=Nat × List (Sl Int) × Hp) (fun t=>match t with|(j,ac,hj)=>⟨[(0,true,.c (.v (.int .i64 n))),(1,true,.c (.v (.int .i64 (size+1:Nat)))),(4,true,.c (.v (.slice none 0 0))),(5,true,.c (.s 0)),(6,true,.c (.v (.int .i64 f))),(17,true,.c (.v (.int .i64 n))),(18,true,.c (.v (.int .i64 f))),(27,true,.c (.v s.val)),(28,true,.c (.v (.int .i64 s.l.length))),(29,true,.c (.v (.int .i64 j)))],[(0,.row 36 1 ac.length (ac.flatMap Enc.enc))],hj,1⟩) (fun t=>t.1≤s.l.length∧t.2.1.map (·.l)=((List.range f).flatMap (selG size n)).map zs ++ ((selG size n f).take t.1).map zs∧t.2.1.length≤64 * f+t.1∧(∀ y ∈ t.2.1,Enc.ok t.2.2 y)∧Mines h t.2.2 t.2.1∧h.le t.2.2∧h1.le t.2.2) (fun t=>s.l.length - t.1) (0,acc,h1) ⟨Nat.zero_le _,by simp [hm],hal,fun y hy=>Enc.mono le1 (hok y hy),⟨fun y hy=>(Foot.loc (hok y hy) (hmi.1 y hy) fun b _ o ho=>le1 b o ho).2,hmi.2.1,hmi.2.2⟩,Hp.le_trans hle le1,Hp.le_refl _⟩ [0] ?_ ?_
   ·refine Evs ?_
    have l01:=Hp.le_trans hle le1
    exact Gk
   rintro ⟨j,ac,hj⟩ ⟨hjl,hmj,hlj,hoj,hmij,lej,lesj⟩
   simp only at hjl hmj hlj hoj hmij lej lesj
   have oksj:=oks.mono lesj
   refine Wk ?_
   refine zc9 rfl (fun hdj=>?_) (fun hdj=>?_)
   ·have hltj:=zjH hdj
    have hokr:s.l[j].Ok hj:=Sl.Ok.el oksj hltj
    obtain ⟨r,hrm,hr⟩:∃ r,r ∈ sels size (n - f - 1)∧s.l[j].l=zs r∧(selG size n f)[j]?=some (f :: r.map (f+1+·)):=by
     have h9:j < (sels size (n - f - 1)).length:=by omega
     refine ⟨(sels size (n - f - 1))[j],List.getElem_mem h9,zMm es hltj h9,?_⟩
     rw [selG,List.getElem?_map,List.getElem?_eq_getElem h9];rfl
    obtain ⟨hr,hg⟩:=hr
    obtain ⟨hrs,hra⟩:=zMC.1 hrm
    have hrl:r.length≤6:=Nat.le_trans (zMP hra) (by omega)
    have hsj:s.l[j].l.length=r.length:=by rw [hr,zAH]
    obtain ⟨W,hW⟩:∃ W:Nat→List Int,W=fun i=>zs (f :: (r.take i).map (f+1+·)):=⟨_,rfl⟩
    have hW0:W 0=[(f:Int)]:=by rw [hW];rfl
    have hWl:∀ i,i≤r.length→(W i).length=i+1:=fun i hi=>by rw [hW];simp [zs];omega
    have hWn:∀ i (hi:i < r.length),W (i+1)=W i ++ [((f+1+r[i]:Nat):Int)]:=fun i hi=>by
     rw [hW]
     simp only [List.take_succ_eq_append_getElem hi,List.map_append,List.map_cons,List.map_nil]
     rw [← List.cons_append,zM6];rfl
    repeat' first|refine Wa ?_|(simp only [go_sem,jq,jj,jy,jv,jk,jx,zku oksj hltj,oksj.some hltj,hltj,jW];try rfl)|refine Wb ?_|fail
    refine zl0 (ι:=Nat) (fun i=>⟨[(0,true,.c (.v (.int .i64 n))),(1,true,.c (.v (.int .i64 (size+1:Nat)))),(4,true,.c (.v (.slice none 0 0))),(5,true,.c (.s 0)),(6,true,.c (.v (.int .i64 f))),(17,true,.c (.v (.int .i64 n))),(18,true,.c (.v (.int .i64 f))),(27,true,.c (.v s.val)),(28,true,.c (.v (.int .i64 s.l.length))),(29,true,.c (.v (.int .i64 j))),(9,true,.c (.s 1)),(35,true,.c (.v s.l[j].val)),(36,true,.c (.v (.int .i64 r.length))),(37,true,.c (.v (.int .i64 i)))],[(0,.row 36 1 ac.length (ac.flatMap Enc.enc)),(1,.row 3 1 (i+1) ((W i).flatMap Enc.enc))],hj,2⟩) (fun i=>i≤r.length) (fun i=>r.length - i) 0 (Nat.zero_le _) [0,1] ?_ ?_
    ·simp only [go_sem,jq,jj,jy,jv,jk,jx,hsj]
     rw [hW0]
     exact Gk
    intro i hi
    refine Wk ?_
    refine zc9 rfl (fun hdi=>?_) (fun hdi=>?_)
    ·have hlti:i < r.length:=zjH hdi
     have hlti2:i < s.l[j].l.length:=by omega
     have he:s.l[j].l[i]=((r[i]:Nat):Int):=by simp only [hr];exact zM5 hlti _
     have hri:=hra.2 _ (List.getElem_mem hlti)
     have hwe:IntKind.i64.wrap (IntKind.i64.wrap ((f:Int)+1)+(r[i]:Nat))=((f+1+r[i]:Nat):Int):=by rw [zjz (n:=(f:Int)+1) (by omega),zjz (by omega)];omega
     repeat' first|refine Wa ?_|(simp only [go_sem,jq,jj,jy,jv,jk,jx,zkv hokr hlti2,hokr.some hlti2,hlti2,hlti,he,hwe,jW];try rfl)|refine Wb ?_|fail
     refine ⟨by simp only [maxLen];omega,by omega,?_⟩
     refine Wk ?_
     refine ⟨i+1,[0,3],hlti,by omega,?_⟩
     refine Evs ?_
     rw [hWn i hlti,List.flatMap_append]
     exact Gi (zjA hlti (by omega))
    ·have hgei:=zjI hdi
     obtain rfl:i=r.length:=by omega
     refine zc6 ?_
     refine Evs ?_
     refine zlE 1 (W r.length) rfl rfl (hWl _ (Nat.le_refl _)).symm rfl (by decide) (fun y hy=>?_) hj (Hp.le_refl _) (Mines.flat (fun _=>rfl) (fun _=>trivial)) fun q h' e1 e2 e3 e4=>?_
     ·rw [hW] at hy
      refine zM7 (fun z hz=>?_) y hy
      rcases List.mem_cons.1 hz with rfl|hz
      ·omega
      ·obtain ⟨u,hu,rfl⟩:=List.mem_map.1 hz
       have:=hra.2 u (List.mem_of_mem_take hu)
       omega
     refine Wk ?_
     refine ⟨by simp only [maxLen];omega,by omega,?_⟩
     refine Wk ?_
     have hqe:q.l=zs (f :: r.map (f+1+·)):=by rw [e1,hW];simp
     refine ⟨(j+1,ac ++ [q],h'),[3],⟨hltj,?_,by simp only [List.length_append,List.length_singleton];omega,fun y hy=>?_,Mines.snoc hmij hoj e3 lej e4,Hp.le_trans lej e3,Hp.le_trans lesj e3⟩,by simp only;omega,?_⟩
     ·show (ac ++ [q]).map _=_
      obtain ⟨hj9,hg9⟩:=List.getElem?_eq_some_iff.1 hg
      rw [List.map_append,hmj,List.map_cons,List.map_nil,hqe,List.take_succ_eq_append_getElem hj9,hg9,List.map_append,List.append_assoc];rfl
     ·rcases List.mem_append.1 hy with hy|hy
      ·exact Enc.mono e3 (hoj y hy)
      ·rw [List.mem_singleton.1 hy];exact e2
     refine Evs ?_
     have lle:=Hp.le_trans lej e3
     simp only [List.flatMap_append,List.length_append]
     exact Gi (zjA hltj (by omega))
   ·have hgej:=zjI hdj
    have hje:j=s.l.length:=by omega
    refine Wk ?_
    refine ⟨(f+1,ac,hj),[0],⟨hlt,?_,by simp only;omega,hoj,hmij,lej⟩,by simp only;omega,?_⟩
    ·simp only
     rw [hmj,List.range_succ,List.flatMap_append,List.map_append,List.flatMap_cons,List.flatMap_nil,List.append_nil,List.take_of_length_le (by rw [selG,List.length_map];omega)]
    refine Evs ?_
    exact Gi (zjA (n:=64) (k:=f) (by omega) (by omega))
  ·have hge:=zjI hd
   obtain rfl:f=n:=by omega
   refine zc6 ?_
   refine Evs ?_
   refine zlE 0 acc rfl rfl rfl rfl (by decide) hok h hle hmi fun q h' e1 e2 e3 e4=>?_
   refine Wk ?_
   exact ⟨q,rfl,by rw [e1,hm,zM8],e2,e4⟩
theorem zNa {s m:Nat} (h:s < m):List.range m=List.range s ++ s :: (List.range m).drop (s+1):=by
 have e:=List.take_append_drop s (List.range m)
 rw [List.take_range,Nat.min_eq_left (Nat.le_of_lt h),List.drop_eq_getElem_cons (by simpa using h)] at e
 simpa using e.symm
theorem zNb {α:Type} {P:α→Bool} {A B:List α} {w:α} (hA:∀ y ∈ A,P y=false) (hw:P w=true):(A ++ w :: B).find? P=some w:=by
 rw [List.find?_append,List.find?_eq_none.2 (fun y hy=>by rw [hA y hy];exact Bool.false_ne_true),List.find?_cons,hw];rfl
theorem zNc {β:Type} {P:β→Bool} {F:Nat→List β} {m s j:Nat} (hs:s < m) (hj:j < (F s).length) (hA:∀ y ∈ (List.range s).flatMap F,P y=false) (hB:∀ y ∈ (F s).take j,P y=false) (hw:P (F s)[j]=true):((List.range m).flatMap F).find? P=some (F s)[j]:=by
 have e:(List.range m).flatMap F=((List.range s).flatMap F ++ (F s).take j) ++ (F s)[j] :: ((F s).drop (j+1) ++ ((List.range m).drop (s+1)).flatMap F):=by
  rw [zNa hs]
  simp only [List.flatMap_append,List.flatMap_cons]
  have h2:=List.take_append_drop j (F s)
  rw [List.drop_eq_getElem_cons hj] at h2
  have h3:(List.range s ++ s :: (List.range m).drop (s+1)).drop (s+1)=(List.range m).drop (s+1):=by rw [← zNa hs]
  rw [h3,List.append_assoc]
  congr 1
  exact (congrArg (· ++ _) h2.symm).trans (List.append_assoc ..)
 rw [e]
 refine zNb (fun y hy=>?_) hw
 rcases List.mem_append.1 hy with hy|hy
 ·exact hA y hy
 ·exact hB y hy
theorem zNd {β:Type} {P:β→Bool} {F:Nat→List β} {m:Nat} (hA:∀ y ∈ (List.range m).flatMap F,P y=false):((List.range m).flatMap F).find? P=none:=List.find?_eq_none.2 fun y hy=>by rw [hA y hy];exact Bool.false_ne_true
theorem zNe {w:List Nat} {i:Nat} (h:i < w.length):(zs w).getD i 0=((w[i]:Nat):Int):=by simp [zs,List.getD_eq_getElem?_getD,h]
theorem zNf {n:Nat} {w:List Nat} (h:Asc n w) {i j:Nat} (hj:j < w.length) (hij:i < j):w[i]'(by omega) < w[j]:=List.pairwise_iff_getElem.1 h.1 i j (by omega) hj hij
theorem zNg {n:Nat} {w:List Nat} (h:Asc n w):Sel n (zs w):=fun i hi=>by
 rw [zAH] at hi
 rw [zNe hi]
 refine ⟨jY _,by have:=h.2 _ (List.getElem_mem hi);omega,fun h0=>?_⟩
 rw [zNe (show i - 1 < w.length by omega)]
 have:=zNf h (i:=i - 1) hi (by omega)
 omega
def selC (a:List DCall) (w:List Nat):List DCall:=w.map fun k=>a.getD k ⟨0,0,0,0,0⟩
theorem zNh {a:List DCall} {w:List Nat} (h:Asc a.length w):zKC a (zs w)=selC a w:=by
 rw [zKC,if_pos (zNg h),zs,List.map_map];rfl
theorem zNi {a:List DCall} {w:List Nat} {i:Nat} (hi:i < w.length):(selC a w).getD i dC=a.getD w[i] ⟨0,0,0,0,0⟩:=by simp [selC,List.getD_eq_getElem?_getD,hi]
theorem zNj {x:zFc} {a:List DCall} {w:List Nat} (hc:zJJ x a=true) (h:Asc a.length w):zJJ x (selC a w)=true:=by
 have hl:=zMP h
 rw [zJJ,jJ,jJ,decide_eq_true_eq,decide_eq_true_eq] at hc ⊢
 obtain ⟨⟨h1,h2⟩,h3⟩:=hc
 have hwl:(selC a w).length=w.length:=List.length_map ..
 have hd:dC=(⟨0,0,0,0,0⟩:DCall):=rfl
 refine ⟨⟨h1,by omega⟩,fun i hi=>?_⟩
 rw [hwl] at hi
 have hwi:=h.2 _ (List.getElem_mem hi)
 have h4:=h3 _ hwi
 rw [clOk,jJ] at h4 ⊢
 rw [zNi hi,← hd]
 refine ⟨h4.1,?_⟩
 rw [zJI,decide_eq_true_eq] at h4 ⊢
 intro j hj
 rw [zNi hi,zNi (show j < w.length by omega),← hd]
 exact h4.2 _ (zNf h hi hj)
theorem zNk {x:DHarbour} {a:List DCall} {w:List Nat} (hc:zJJ (Con.con x) a=true) (h:Asc a.length w):zMV (Con.con x) a (zs w)=QS (Con.con x) a w:=by
 have hs:=zNj hc h
 have h6:=zKv hs
 have hw:=zLe hs
 have hfl:(Con.con x).fleet=x.fleet.l:=zu4 _
 have hB:zLz (Con.con x) (zKs (Con.con x) (selC a w))=srI (Con.con x) (zKs (Con.con x) (selC a w)) [] [] none:=zLA hw (fun l hl o ho=>by
  rw [zKs] at hl
  obtain ⟨d,_,rfl⟩:=List.mem_map.1 hl
  rw [hfl];exact zBK o ho) (fun l hl o ho=>by
  rw [zKs] at hl
  obtain ⟨d,_,rfl⟩:=List.mem_map.1 hl
  exact (zzu o ho).1) (by rw [zKu];omega)
 have hL:zKs (Con.con x) (selC a w)=w.map fun k=>(zKs (Con.con x) a).getD k []:=by
  rw [zKs,selC,List.map_map]
  refine List.map_congr_left fun k hk=>?_
  have hka:=h.2 k hk
  simp only [Function.comp]
  rw [zKt hka]
  simp [List.getD_eq_getElem?_getD,hka]
 rw [zMV,hc,decide_eq_true (zNg h),zNh h,Bool.true_and,Bool.true_and,zMU,zLC,if_pos hs,← hB,hL,QS]
noncomputable def refL (x:zFc) (a:List DCall):List Nat:=(zMJ false (fun w=>QS x a w == false) (zMO a.length)).getD []
noncomputable def srvL (x:zFc) (a:List DCall):List Nat:=(zMJ true (fun w=>QS x a w == true) (zMO a.length)).getD []
noncomputable def zNl (x:zFc) (a:List DCall):List Int:=if zJJ x a=true then zs (refL x a) else []
noncomputable def zNm (x:zFc) (a:List DCall):List Int:=if zJJ x a=true then zs (srvL x a) else []
noncomputable def zNn (x:zFc) (a:List DCall):Int:=if zJJ x a=true then (a.length:Int) - (zNm x a).length else -1
set_option maxRecDepth 30000 in
theorem zNo (x:DHarbour) (a:Sl DCall) (h:Hp) (hx:Enc.ok h x) (ha:a.Ok h):Ct jV 8 [x.v,a.val] h fun v h'=>∃ s:Sl Int,v=s.val∧Con.con s=zNl (Con.con x) (Con.con a)∧s.Ok h'∧Mine h h' s:=by
 have hca:Con.con a=a.l:=zJK a
 rw [hca]
 refine zdn (fun A W=>by simp) Tryz.func8 rfl rfl (by simp) fun W0=>?_
 repeat' first|refine Wa ?_|refine zhF (fun _=>zJL x a _ hx ha) ?_|(simp only [go_sem,jq,jj,jy,jv,jk,jx];try rfl)|refine Wb ?_|fail
 rw [hca]
 refine zc9 rfl (fun hc=>?_) (fun hc=>?_)
 ·rw [Bool.not_eq_true'] at hc
  rw [zNl,if_neg (by rw [hc];exact Bool.false_ne_true)]
  refine Wk ?_
  exact ⟨⟨none,0,[]⟩,rfl,rfl,zmo,Mine.nil⟩
 rw [Bool.not_eq_false'] at hc
 have h6:=zKv hc
 rw [zNl,if_pos hc]
 obtain ⟨P,hserv,hR⟩:∃ P:List Nat→Bool,(∀ w,Asc a.l.length w→(!zMV (Con.con x) a.l (zs w))=P w)∧∀ r,((List.range (a.l.length+1)).flatMap fun s=>sels s a.l.length).find? P=r→refL (Con.con x) a.l=r.getD []:=by
  refine ⟨fun w=>QS (Con.con x) a.l w == false,fun w hw=>?_,fun r hr=>?_⟩
  ·rw [zNk hc hw]
   show (!QS (Con.con x) a.l w)=(QS (Con.con x) a.l w == false)
   cases QS (Con.con x) a.l w <;> rfl
  ·rw [refL,← zMS,upL,hr]
 have hwn:IntKind.i64.wrap ((a.l.length:Int)+1)=((a.l.length+1:Nat):Int):=by rw [zjz (by omega)];rfl
 repeat' first|refine Wa ?_|(simp only [go_sem,jq,jj,jy,jv,jk,jx,hwn];try rfl)|refine Wb ?_|fail
 refine zl0 (ι:=Nat × Hp) (fun t=>⟨[(1,true,.c (.v a.val)),(2,true,.c (.p 0 0)),(4,true,.c (.v (.slice none 0 0))),(14,true,.c (.v (.int .i64 (a.l.length+1:Nat)))),(15,true,.c (.v (.int .i64 t.1)))],[(0,.box 40 [.v (.int .i64 x.forecast.tide.mean),.v x.forecast.tide.parts.val,.v x.forecast.surges.val,.v x.chart.points.val,.v x.chart.segments.val,.v x.fleet.val,.v (.int .i64 x.regime.gap),.v (.bool x.regime.noMeet),.v (.int .i64 x.crew.tugs),.v (.int .i64 x.crew.pilots),.v (.int .i64 x.crew.rest),.v x.crew.moves.val])],t.2,1⟩) (fun t=>t.1≤a.l.length+1∧(∀ y ∈ (List.range t.1).flatMap (fun s=>sels s a.l.length),P y=false)∧h.le t.2) (fun t=>a.l.length+1 - t.1) (0,h) ⟨Nat.zero_le _,fun y hy=>(by cases hy),Hp.le_refl _⟩ [0] ?_ ?_
 ·refine Evs ?_
  exact Gk
 rintro ⟨f,hk⟩ ⟨hf,hno,hle⟩
 simp only at hf hno hle
 refine Wk ?_
 refine zc9 rfl (fun hd=>?_) (fun hd=>?_)
 ·have hlt:f < a.l.length+1:=zjH hd
  refine Wk ?_
  refine zkj (zM9 f a.l.length _ h6 (by omega)) rfl ?_
  rintro v h1 le1 ⟨s,rfl,es,oks,ms⟩
  have hsl:s.l.length=(sels f a.l.length).length:=zMn es
  have le01:=Hp.le_trans hle le1
  have hs64:=zMT (n:=a.l.length) h6 (s:=f)
  refine Wk ?_
  refine zl0 (ι:=Nat) (fun j=>⟨[(1,true,.c (.v a.val)),(2,true,.c (.p 0 0)),(4,true,.c (.v (.slice none 0 0))),(14,true,.c (.v (.int .i64 (a.l.length+1:Nat)))),(15,true,.c (.v (.int .i64 f))),(21,true,.c (.v s.val)),(22,true,.c (.v (.int .i64 s.l.length))),(23,true,.c (.v (.int .i64 j)))],[(0,.box 40 [.v (.int .i64 x.forecast.tide.mean),.v x.forecast.tide.parts.val,.v x.forecast.surges.val,.v x.chart.points.val,.v x.chart.segments.val,.v x.fleet.val,.v (.int .i64 x.regime.gap),.v (.bool x.regime.noMeet),.v (.int .i64 x.crew.tugs),.v (.int .i64 x.crew.pilots),.v (.int .i64 x.crew.rest),.v x.crew.moves.val])],h1,1⟩) (fun j=>j≤s.l.length∧∀ y ∈ (sels f a.l.length).take j,P y=false) (fun j=>s.l.length - j) 0 ⟨Nat.zero_le _,fun y hy=>(by cases hy)⟩ [0] ?_ ?_
  ·refine Evs ?_
   exact Gk
  rintro j ⟨hj,hnj⟩
  refine Wk ?_
  refine zc9 rfl (fun hdj=>?_) (fun hdj=>?_)
  ·have hltj:=zjH hdj
   have h9:j < (sels f a.l.length).length:=by omega
   have hel:s.l[j].l=zs (sels f a.l.length)[j]:=zMm es hltj h9
   have has:=(zMC.1 (List.getElem_mem h9)).2
   have hos:s.l[j].Ok h1:=Sl.Ok.el oks hltj
   repeat' first|refine Wa ?_|(simp only [go_sem,jq,jj,jy,jv,jk,jx,zku oks hltj,oks.some hltj,hltj,jW];try rfl)|refine Wb ?_|fail
   refine zhF (fun _=>zMY x a s.l[j] _ (Enc.mono le01 hx) (ha.mono le01) hos (by rw [con_ints,hel,zMx];have:=zMP has;omega)) ?_
   rw [con_ints,hca,hel]
   refine Wk ?_
   rw [hserv _ has]
   refine zc9 rfl (fun hq=>?_) (fun hq=>?_)
   ·refine Wk ?_
    rw [hR _ (zNc (F:=fun s=>sels s a.l.length) hlt h9 hno hnj hq)]
    exact ⟨s.l[j],rfl,con_ints.trans hel,hos,(zKQ ms hltj).back hle⟩
   ·refine Wk ?_
    refine ⟨j+1,[0],⟨hltj,fun y hy=>?_⟩,by omega,?_⟩
    ·rw [List.take_succ_eq_append_getElem h9] at hy
     rcases List.mem_append.1 hy with hy|hy
     ·exact hnj y hy
     ·rw [List.mem_singleton.1 hy];exact hq
    refine Evs ?_
    exact Gi (zjA hltj (by omega))
  ·have hgej:=zjI hdj
   refine Wk ?_
   refine ⟨(f+1,h1),[0],⟨hlt,fun y hy=>?_,le01⟩,by simp only;omega,?_⟩
   ·rw [List.range_succ,List.flatMap_append] at hy
    rcases List.mem_append.1 hy with hy|hy
    ·exact hno y hy
    ·rw [List.flatMap_cons,List.flatMap_nil,List.append_nil] at hy
     rw [List.take_of_length_le (by omega)] at hnj
     exact hnj y hy
   refine Evs ?_
   exact Gi (zjA (n:=64) (k:=f) (by omega) (by omega))
 ·have hge:=zjI hd
  have hfe:f=a.l.length+1:=by omega
  rw [hfe] at hno
  rw [hR _ (zNd hno)]
  refine Wk ?_
  exact ⟨⟨none,0,[]⟩,rfl,rfl,zmo,Mine.nil⟩
theorem zNp {α:Type} {d:α} {l l2:List α} (h:l.Sublist l2):∃ f:Nat→Nat,(∀ i,i < l.length→f i < l2.length∧l.getD i d=l2.getD (f i) d)∧∀ i j,i < j→j < l.length→f i < f j:=by
 induction h with
 | slnil=>exact ⟨id,fun i hi=>absurd hi (Nat.not_lt_zero _),fun i j _ hj=>absurd hj (Nat.not_lt_zero _)⟩
 | cons a _ ih =>
  obtain ⟨f,h1,h2⟩:=ih
  refine ⟨fun i=>f i+1,fun i hi=>?_,fun i j hij hj=>by show f i+1 < f j+1;have:=h2 i j hij hj;omega⟩
  obtain ⟨a1,a2⟩:=h1 i hi
  exact ⟨by rw [List.length_cons];show f i+1 < _;omega,by rw [a2,List.getD_cons_succ]⟩
 | cons_cons a _ ih =>
  obtain ⟨f,h1,h2⟩:=ih
  refine ⟨fun i=>match i with|0=>0|i+1=>f i+1,fun i hi=>?_,fun i j hij hj=>?_⟩
  ·cases i with
   | zero=>exact ⟨Nat.succ_pos _,rfl⟩
   | succ i =>
    obtain ⟨a1,a2⟩:=h1 i (by rw [List.length_cons] at hi;omega)
    exact ⟨by rw [List.length_cons];show f i+1 < _;omega,by
     show (a :: _).getD (i+1) d=(a :: _).getD (f i+1) d
     rw [List.getD_cons_succ,List.getD_cons_succ,a2]⟩
  ·rw [List.length_cons] at hj
   cases j with
   | zero=>exact absurd hij (Nat.not_lt_zero _)
   | succ j =>
    cases i with
    | zero=>show 0 < f j+1;omega
    | succ i=>show f i+1 < f j+1;have:=h2 i j (by omega) (by omega);omega
theorem zNq {l l2:List DDuty} (hs:l.Sublist l2) (h:zz2 l2=true):zz2 l=true:=by
 rw [zz2,jJ,decide_eq_true_eq,List.all_eq_true] at h ⊢
 exact ⟨Nat.le_trans hs.length_le h.1,fun x hx=>h.2 x (hs.subset hx)⟩
theorem zNr {p:Int} {m:List Int} {l l2:List DDuty} {k:Int} (hs:l.Sublist l2) (hp:In p 0 2880=true) (hm:zvm m=true) (hd:zz2 l2=true) (h:zKT p m l2 k=true):zKT p m l k=true:=by
 have c1:zA5 p m l2=true:=by rw [zA5,hd,hp,hm];rfl
 have c2:zA5 p m l=true:=by rw [zA5,zNq hs hd,hp,hm];rfl
 rw [zKU c1,In,jJ,decide_eq_true_eq,decide_eq_true_eq] at h
 obtain ⟨a1,a2,a3⟩:=zCc c1
 obtain ⟨b1,b2,b3⟩:=zCc c2
 obtain ⟨h0,g,g1,g2⟩:=(a3 k).1 h.2
 obtain ⟨f,f1,f2⟩:=zNp (d:=dD) hs
 rw [zKU c2,In,jJ,decide_eq_true_eq,decide_eq_true_eq]
 refine ⟨b1,(b3 k).2 ⟨h0,fun i=>g (f i),fun i hi=>g1 _ (f1 i hi).1,fun i j hi hj hji he=>?_⟩⟩
 have:=g2 (f i) (f j) (f1 i hi).1 (f1 j hj).1 (f2 j i hji hi) he
 rw [zA3] at this ⊢
 rw [(f1 i hi).2,(f1 j hj).2]
 exact this
theorem zNs {α β:Type} {f:α→List β} {l l2:List α} (h:l.Sublist l2):(l.flatMap f).Sublist (l2.flatMap f):=by
 induction h with
 | slnil=>exact List.Sublist.refl _
 | cons a _ ih=>rw [List.flatMap_cons];exact ih.trans (List.sublist_append_right _ _)
 | cons_cons a _ ih=>rw [List.flatMap_cons,List.flatMap_cons];exact (List.Sublist.refl _).append ih
theorem zNt {x:zFc} {l l2:List POption} (hs:l.Sublist l2) (hw:zvn x.crew=true) (hg:∀ o ∈ l2,zBC x.chart x.fleet o.pas) (h12:l2.length≤12) (h:zKX x l2=true):zKX x l=true:=by
 obtain ⟨hr,ht⟩:=zBn hw
 have hd:=zCg hg h12
 have hfs:=zNs (f:=fun o:POption=>o.pas) hs
 rw [zKX] at h ⊢
 cases hq:zJ4 x.chart x.fleet (l2.flatMap (·.pas)) with
 | none=>rw [hq] at h;cases h
 | some d =>
  rw [hq] at h
  have hdd:=zKg hq
  simp only [jJ] at h
  rw [zJ4] at hq
  split at hq
  ·rename_i hc
   obtain ⟨hc1,hc2⟩:=hc
   obtain rfl:=Option.some.inj hq
   have hts:(tugL x.chart x.fleet (l.flatMap (·.pas))).Sublist (tugL x.chart x.fleet (l2.flatMap (·.pas))):=zNs hfs
   have hq2:zJ4 x.chart x.fleet (l.flatMap (·.pas))=some (tugL x.chart x.fleet (l.flatMap (·.pas))):=by
    obtain ⟨f,f1,_⟩:=zNp (d:=dQ) hfs
    have hall:∀ i,i < (l.flatMap (·.pas)).length→pOk x.chart x.fleet (l.flatMap (·.pas)) i=true:=fun i hi=>by
     have:=hc1 (f i) (f1 i hi).1
     rw [pOk] at this ⊢
     rw [(f1 i hi).2];exact this
    rw [zJ4,if_pos ⟨hall,Nat.le_trans hts.length_le hc2⟩]
   rw [hq2]
   simp only [jJ]
   have hps:(pilD x.chart l).Sublist (pilD x.chart l2):=(hs.filter _).map _
   exact ⟨zNr hts (by decide) ht hdd h.1,zNr hps hr ht hd h.2⟩
  ·cases hq
theorem zNu {l:List POption} {w:List Nat} (h:Asc l.length w):(w.map fun k=>l.getD k zJX).Sublist l:=by
 have key:∀ (l:List POption) (s:Nat) (w:List Nat),w.Pairwise (· < ·)→(∀ k ∈ w,s≤k∧k < s+l.length)→(w.map fun k=>l.getD (k - s) zJX).Sublist l:=by
  intro l
  induction l with
  | nil =>
   intro s w _ h
   cases w with
   | nil=>exact List.Sublist.refl _
   | cons k w=>have:=h k (List.mem_cons_self ..);simp only [List.length_nil] at this;omega
  | cons y l ih =>
   intro s w hp h
   have rest:∀ w:List Nat,w.Pairwise (· < ·)→(∀ k ∈ w,s+1≤k∧k < s+1+l.length)→(w.map fun k=>(y :: l).getD (k - s) zJX).Sublist l:=fun w hp h=>by
    have e:(w.map fun k=>(y :: l).getD (k - s) zJX)=w.map fun k=>l.getD (k - (s+1)) zJX:=List.map_congr_left fun k hk=>by
     have:=h k hk
     rw [show k - s=(k - (s+1))+1 by omega,List.getD_cons_succ]
    rw [e]
    exact ih (s+1) w hp h
   cases w with
   | nil=>exact List.nil_sublist _
   | cons k w =>
    obtain ⟨h1,h2⟩:=List.pairwise_cons.1 hp
    have hk:=h k (List.mem_cons_self ..)
    rw [List.length_cons] at hk
    by_cases e:k=s
    ·subst e
     rw [List.map_cons,Nat.sub_self,List.getD_cons_zero]
     refine List.Sublist.cons_cons _ (rest w h2 fun j hj=>?_)
     have a1:=h1 j hj
     have a2:=h j (List.mem_cons_of_mem _ hj)
     rw [List.length_cons] at a2
     omega
    ·refine List.Sublist.cons _ (rest (k :: w) hp fun j hj=>?_)
     have a2:=h j hj
     rw [List.length_cons] at a2
     rcases List.mem_cons.1 hj with rfl|hj
     ·omega
     ·have a1:=h1 j hj
      omega
 have:=key l 0 w h.1 fun k hk=>⟨Nat.zero_le _,by rw [Nat.zero_add];exact h.2 k hk⟩
 simpa using this
theorem zNv {x:zFc}:∀ {l p:List POption},zKX x p=true→zL0 x p l→zKX x (p ++ l)=true
 | [],p,h,_=>by rw [List.append_nil];exact h
 | o :: l,p,_,h=>by
  have h1:=h.1
  rw [zK7,jJ] at h1
  have:=zNv h1.2 h.2
  rwa [List.append_assoc] at this
theorem zNw {x:DHarbour} {calls:List DCall} {ks:List Nat} (h:inR (zKs (Con.con x) calls) ks):∀ o ∈ picks (zKs (Con.con x) calls) ks,zBC (Con.con x:zFc).chart (Con.con x:zFc).fleet o.pas:=fun o ho=>by
 have hl:(zKs (Con.con x) calls).length=calls.length:=List.length_map ..
 have hp:=zL5 h
 obtain ⟨i,hi,rfl⟩:=List.getElem_of_mem ho
 have:=zMf h i (by omega)
 have e:(picks (zKs (Con.con x) calls) ks).getD i zJX=(picks (zKs (Con.con x) calls) ks)[i]:=by rw [List.getD_eq_getElem?_getD,List.getElem?_eq_getElem hi];rfl
 rw [e] at this
 rw [show (Con.con x:zFc).fleet=x.fleet.l from zu4 _]
 exact zBK _ this
theorem zNx {x:DHarbour} {a:List DCall} {w:List Nat} (hc:zJJ (Con.con x) a=true) (hw:Asc a.length w) (h:zMU (Con.con x) a=true):zMU (Con.con x) (selC a w)=true:=by
 have hl:(zKs (Con.con x) a).length=a.length:=List.length_map ..
 have h6:=zMj hc
 have hcw:=zLe hc
 rcases zMi hc with ⟨h1,_⟩|⟨_,ks,_,h3,h4,_⟩
 ·rw [zMU,h1] at h;cases h
 ·have hsc:=zNj hc hw
  have hpl:=zL5 h3
  have hsl:(selC a w).length=w.length:=List.length_map ..
  have hw2:=hw.2
  have hget:∀ i (hi:i < w.length),(zKs (Con.con x) (selC a w)).getD i []=(zKs (Con.con x) a).getD w[i] []:=fun i hi=>by
   rw [zMe (by omega),zMe (hw2 _ (List.getElem_mem hi)),zNi hi];rfl
  have hks:inR (zKs (Con.con x) (selC a w)) (w.map fun k=>ks.getD k 0):=zL7 (by rw [List.length_map,zKs,List.length_map,hsl]) fun i hi=>by
   rw [zKs,List.length_map,hsl] at hi
   rw [hget i hi]
   have:=(zL6 h3 w[i] (by rw [hl];exact hw2 _ (List.getElem_mem hi))).1
   have e:(w.map fun k=>ks.getD k 0).getD i 0=ks.getD w[i] 0:=by rw [List.getD_eq_getElem?_getD,List.getElem?_map,List.getElem?_eq_getElem hi];rfl
   rw [e];exact this
  have hpk:picks (zKs (Con.con x) (selC a w)) (w.map fun k=>ks.getD k 0)=w.map fun k=>(picks (zKs (Con.con x) a) ks).getD k zJX:=by
   have hpl2:=zL5 hks
   rw [zKs,List.length_map,hsl] at hpl2
   refine List.ext_getElem (by rw [List.length_map];exact hpl2) fun i h5 h7=>?_
   have hi:i < w.length:=by rwa [List.length_map] at h7
   have g1:=(zL6 hks i (by rw [zKs,List.length_map,hsl];exact hi)).2
   have g2:=(zL6 h3 w[i] (by rw [hl];exact hw2 _ (List.getElem_mem hi))).2
   rw [List.getD_eq_getElem?_getD,List.getElem?_eq_getElem h5,Option.getD_some] at g1
   rw [g1,List.getElem_map,g2,hget i hi]
   have e:(w.map fun k=>ks.getD k 0).getD i 0=ks.getD w[i] 0:=by rw [List.getD_eq_getElem?_getD,List.getElem?_map,List.getElem?_eq_getElem hi];rfl
   rw [e]
  have hgood:=zNw h3
  have hcf:=zNv (zKZ hcw) h4
  rw [List.nil_append] at hcf
  have hfit:zL0 (Con.con x) [] (picks (zKs (Con.con x) (selC a w)) (w.map fun k=>ks.getD k 0)):=by
   rw [hpk,zL8]
   intro i hi
   have hiw:i < w.length:=by rwa [List.length_map] at hi
   have hsub:=zNu (l:=picks (zKs (Con.con x) a) ks) (w:=w) ⟨hw.1,fun k hk=>by rw [hpl,hl];exact hw2 k hk⟩
   rw [List.nil_append,zK7,jJ]
   refine ⟨?_,?_⟩
   ·rw [zK6,Bool.not_eq_true',List.any_eq_false]
    intro p hp
    obtain ⟨j,hj,rfl⟩:=List.getElem_of_mem hp
    rw [List.length_take] at hj
    have hjw:j < w.length:=by omega
    have hlt:w[j] < w[i]:=List.pairwise_iff_getElem.1 hw.1 j i hjw hiw (by omega)
    have h7:=zL8.1 h4 w[i] (by rw [hpl,hl];exact hw2 _ (List.getElem_mem hiw))
    rw [List.nil_append,zK7,jJ,zK6,Bool.not_eq_true'] at h7
    have hwl:w[j] < (picks (zKs (Con.con x) a) ks).length:=by rw [hpl,hl];exact hw2 _ (List.getElem_mem hjw)
    have h8:=List.any_eq_false.1 h7.1 ((picks (zKs (Con.con x) a) ks).getD w[j] zJX) (by
     have hil:w[j] < ((picks (zKs (Con.con x) a) ks).take w[i]).length:=by rw [List.length_take];omega
     have e:(picks (zKs (Con.con x) a) ks).getD w[j] zJX=((picks (zKs (Con.con x) a) ks).take w[i])[w[j]]:=by
      rw [List.getElem_take,List.getD_eq_getElem?_getD,List.getElem?_eq_getElem hwl];rfl
     rw [e];exact List.getElem_mem hil)
    rw [List.getElem_take,List.getElem_map]
    have e2:(w.map fun k=>(picks (zKs (Con.con x) a) ks).getD k zJX).getD i zJX=(picks (zKs (Con.con x) a) ks).getD w[i] zJX:=by rw [List.getD_eq_getElem?_getD,List.getElem?_map,List.getElem?_eq_getElem hiw];rfl
    rw [e2]
    exact h8
   ·rw [zLd hi]
    exact zNt ((List.take_sublist ..).trans hsub) hcw hgood (by rw [hpl,hl];omega) hcf
  rcases zMi hsc with ⟨_,_,h5⟩|⟨h5,_⟩
  ·exact (h5 _ hks hfit).elim
  ·exact h5
theorem zNy {a:List DCall}:selC a (List.range a.length)=a:=by
 refine List.ext_getElem (by rw [selC,List.length_map,List.length_range]) fun i h1 h2=>?_
 simp only [selC,List.getElem_map,List.getElem_range,List.getD_eq_getElem?_getD,List.getElem?_eq_getElem h2,Option.getD_some]
theorem zNz {n:Nat}:Asc n (List.range n):=⟨List.pairwise_lt_range,fun x hx=>List.mem_range.1 hx⟩
theorem zNA {x:DHarbour} {a:List DCall} {w:List Nat} (hc:zJJ (Con.con x) a=true) (h:Asc a.length w):QS (Con.con x) a w=zMU (Con.con x) (selC a w):=by
 rw [← zNk hc h,zMV,hc,decide_eq_true (zNg h),zNh h];rfl
theorem zNB {n:Nat} {w:List Nat} (h:Asc n w) (hl:w.length=n):w=List.range n:=by
 refine zMy h.1 List.pairwise_lt_range fun k=>⟨fun hk=>List.mem_range.2 (h.2 k hk),fun hk=>?_⟩
 have hs:w.Sublist (List.range n):=by
  have e:w=zMz n (zzY (fun i=>decide (i ∈ w)) n):=by
   refine zMy h.1 zMA.1 fun x=>?_
   rw [zMz,List.mem_filter,List.mem_range,zzZ,jJ,decide_eq_true_eq,decide_eq_true_eq]
   exact ⟨fun hx=>⟨h.2 x hx,h.2 x hx,hx⟩,fun hx=>hx.2.2⟩
  rw [e]
  exact List.filter_sublist
 rw [hs.eq_of_length (by rw [List.length_range];exact hl)]
 exact hk
theorem zNC {x:DHarbour} {a:List DCall} (hc:zJJ (Con.con x) a=true) :
  zMV (Con.con x) a (zNm (Con.con x) a)=true∧zMV (Con.con x) a []=true∧zNn (Con.con x) a=(a.length:Int) - (zNm (Con.con x) a).length ∧
  (zMU (Con.con x) a=true→zNl (Con.con x) a=[]∧(zNm (Con.con x) a).length=a.length) ∧
  (zMU (Con.con x) a=false→0 < (zNl (Con.con x) a).length∧zMW (Con.con x) a (zNl (Con.con x) a)=true∧zMV (Con.con x) a (zNl (Con.con x) a)=false∧(zNm (Con.con x) a).length < a.length ∧
   (zKC a (zNl (Con.con x) a)).length=(zNl (Con.con x) a).length):=by
 have hnil:Asc a.length []:=⟨List.Pairwise.nil,fun x hx=>by cases hx⟩
 have hQ0:QS (Con.con x) a []=true:=by
  rw [zNA hc hnil,zMU]
  have h0:=zNj hc hnil
  rcases zMi h0 with ⟨_,_,h5⟩|⟨h5,_⟩
  ·exact (h5 [] trivial trivial).elim
  ·exact h5
 have hQn:QS (Con.con x) a (List.range a.length)=zMU (Con.con x) a:=by rw [zNA hc zNz,zNy]
 have hM:zNm (Con.con x) a=zs (srvL (Con.con x) a):=by rw [zNm,if_pos hc]
 have hR:zNl (Con.con x) a=zs (refL (Con.con x) a):=by rw [zNl,if_pos hc]
 have hzl:∀ w:List Nat,(zs w).length=w.length:=fun w=>List.length_map ..
 have pm:=zMM (long:=true) (Q:=fun w=>QS (Con.con x) a w == true) (ls:=zMO a.length)
 have pr:=zMM (long:=false) (Q:=fun w=>QS (Con.con x) a w == false) (ls:=zMO a.length)
 have hS:∃ b,srvL (Con.con x) a=b∧Asc a.length b∧QS (Con.con x) a b=true∧∀ s,Asc a.length s→QS (Con.con x) a s=true→s.length≤b.length:=by
  rw [srvL]
  cases hp:zMJ true (fun w=>QS (Con.con x) a w == true) (zMO a.length) with
  | none =>
   rw [hp] at pm
   have:(QS (Con.con x) a [] == true)=false:=pm [] (zMQ.2 hnil)
   rw [hQ0] at this;cases this
  | some b =>
   rw [hp] at pm
   obtain ⟨p1,p2,p3⟩:=pm
   refine ⟨b,rfl,zMQ.1 p1,eq_of_beq p2,fun s hs hq=>?_⟩
   have:=p3 s (zMQ.2 hs) (show (QS (Con.con x) a s == true)=true by rw [hq];rfl)
   rw [bet,jp,if_pos rfl,decide_eq_false_iff_not] at this
   omega
 obtain ⟨b,eb,b1,b2,b3⟩:=hS
 rw [hM,eb,hR]
 refine ⟨by rw [zNk hc b1];exact b2,by rw [show ([]:List Int)=zs [] from rfl,zNk hc hnil];exact hQ0,by rw [zNn,if_pos hc,hM,eb],fun hcs=>?_,fun hcs=>?_⟩
 ·have hb:=b3 _ zNz (by rw [hQn];exact hcs)
  have hbl:=zMP b1
  rw [List.length_range] at hb
  refine ⟨?_,by rw [hzl];omega⟩
  rw [refL]
  cases hp:zMJ false (fun w=>QS (Con.con x) a w == false) (zMO a.length) with
  | none=>rfl
  | some r =>
   rw [hp] at pr
   obtain ⟨p1,p2,_⟩:=pr
   have hr:=zMQ.1 p1
   have p2:QS (Con.con x) a r=false:=eq_of_beq p2
   rw [zNA hc hr,zNx hc hr hcs] at p2
   cases p2
 ·rw [hcs] at hQn
  have hRr:∃ r,refL (Con.con x) a=r∧Asc a.length r∧QS (Con.con x) a r=false∧∀ s,Asc a.length s→QS (Con.con x) a s=false→r.length≤s.length:=by
   rw [refL]
   cases hp:zMJ false (fun w=>QS (Con.con x) a w == false) (zMO a.length) with
   | none =>
    rw [hp] at pr
    have:(QS (Con.con x) a (List.range a.length) == false)=false:=pr _ (zMQ.2 zNz)
    rw [hQn] at this;cases this
   | some r =>
    rw [hp] at pr
    obtain ⟨p1,p2,p3⟩:=pr
    refine ⟨r,rfl,zMQ.1 p1,eq_of_beq p2,fun s hs hq=>?_⟩
    have:=p3 s (zMQ.2 hs) (show (QS (Con.con x) a s == false)=true by rw [hq];rfl)
    rw [bet,jp,if_neg Bool.false_ne_true,decide_eq_false_iff_not] at this
    omega
  obtain ⟨r,er,r1,r2,r3⟩:=hRr
  rw [er]
  have hsr:zMV (Con.con x) a (zs r)=false:=by rw [zNk hc r1];exact r2
  refine ⟨?_,?_,hsr,?_,?_⟩
  ·rw [hzl]
   cases r with
   | nil=>rw [hQ0] at r2;cases r2
   | cons k r=>exact Nat.succ_pos _
  ·rw [zMW,hc,decide_eq_true (zNg r1),hsr]
   refine decide_eq_true fun i hi=>?_
   rw [hzl] at hi
   have e:(zs r).take i ++ (zs r).drop (i+1)=zs (r.take i ++ r.drop (i+1)):=by rw [zs,zs,List.map_append,List.map_take,List.map_drop]
   have hsub:(r.take i ++ r.drop (i+1)).Sublist r:=by
    conv=>rhs;rw [← List.take_append_drop i r]
    refine (List.Sublist.refl _).append ?_
    rw [List.drop_eq_getElem_cons hi]
    exact List.sublist_cons_self _ _
   have ha:Asc a.length (r.take i ++ r.drop (i+1)):=⟨r1.1.sublist hsub,fun k hk=>r1.2 k (hsub.subset hk)⟩
   rw [e,zNk hc ha]
   cases hq:QS (Con.con x) a (r.take i ++ r.drop (i+1)) with
   | true=>rfl
   | false =>
    have:=r3 _ ha hq
    rw [List.length_append,List.length_take,List.length_drop] at this
    omega
  ·rw [hzl]
   have hbl:=zMP b1
   rcases Nat.lt_or_ge b.length a.length with h9|h9
   ·exact h9
   ·have:=zNB b1 (by omega)
    rw [this,hQn] at b2;cases b2
  ·rw [zNh r1,selC,List.length_map,hzl]
def zND (c:zFb) (k:Int) (s:DShip) (lv:Int):Bool:=zwF c k s && decide (zwG c k s≤lv)
def zNE (f:zFa) (m:Int):Int:=if zuY f=true∧0≤m∧m≤2880 then zv1 f m else 0
theorem zNF {f:zFa} {c:zFb} {fl:List DShip} {p:DPassage} (h:zCr f c fl p=true) {m:Int} (h0:p.start≤m) (h1:m≤p.fin):zND c p.seg (fl.getD p.ship.toNat dH) (zNE f m)=true:=by
 rw [zCr,jJ] at h
 obtain ⟨hp,hs⟩:=h
 obtain ⟨a1,a2,a3,a4,a5,a6⟩:=zBk hp
 have hfin:p.fin=IntKind.i64.wrap (p.start+zvG (fl.getD p.ship.toNat dH) (c.segments.getD p.seg.toNat dG)):=by
  rw [zvI,jJ,jJ,zvH,jJ,decide_eq_true_eq,decide_eq_true_eq] at hp
  exact hp.2.2
 have hm:=zBh (s:=fl.getD p.ship.toNat dH) (zBi a1 (i:=p.seg.toNat) (by omega))
 rw [zCq,zwO] at hs
 by_cases hq:zuY f=true∧zwF c p.seg (fl.getD p.ship.toNat dH)=true
 ·rw [if_pos hq,zwH,if_pos hq.2,zwB] at hs
  obtain ⟨b1,b2,b3⟩:=(zDR (by omega)).1 hs
  have hw:IntKind.i64.wrap (p.start+zvG (fl.getD p.ship.toNat dH) (c.segments.getD p.seg.toNat dG))=p.start+zvG (fl.getD p.ship.toNat dH) (c.segments.getD p.seg.toNat dG):=zjz (by omega)
  rw [hw] at hfin
  rw [zND,hq.2,Bool.true_and,zNE,if_pos ⟨hq.1,by omega,by omega⟩]
  have:=b3 m.toNat (by omega) (by omega)
  rwa [show ((m.toNat:Nat):Int)=m by omega] at this
 ·rw [if_neg hq] at hs
  cases hs
def zNG (c:zFb) (r:DRegime) (l:List DPassage):Bool:=zva c && zvl r && decide (l.Pairwise fun p q=>zJN c r p q=0)
theorem zNH {c:zFb} {f:List DShip} {l:List DPassage} (hC:zxr c l=true) (hp:∀ i,i < l.length→pOk c f l i=true):∀ k,k < l.length→∀ i,i < k→(l.getD i dQ).fin≤(l.getD k dQ).start
 | 0,_,i,hi=>absurd hi (Nat.not_lt_zero i)
 | k+1,hk,i,hi=>by
  have h1:(l.getD k dQ).fin≤(l.getD (k+1) dQ).start:=by
   rw [zxr,jJ,decide_eq_true_eq] at hC
   have:=hC.2 (k+1) hk
   rw [chOk,chTo,jJ,jQ,jJ,decide_eq_true_eq,decide_eq_true_eq,decide_eq_true_eq] at this
   rcases this.2 with h|h
   ·omega
   ·exact h.2
  rcases Nat.lt_or_ge i k with h2|h2
  ·have h3:=zNH hC hp k (by omega) i h2
   have h4:=(zBk (hp k (by omega))).2.2.2.2.1
   omega
  ·obtain rfl:i=k:=by omega
   exact h1
theorem zNI {c:zFb} {r:DRegime} {f:List DShip} {l:List DPassage} (hC:zxr c l=true) (hp:∀ i,i < l.length→pOk c f l i=true):l.Pairwise fun p q=>zJN c r p q=0:=by
 rw [List.pairwise_iff_getElem]
 intro i j hi hj hij
 have hs:=zNH hC hp j hj i hij
 have hsh:∀ k,k < l.length→(l.getD k dQ).ship=(l.getD 0 dQ).ship:=fun k hk=>by
  rw [zxr,jJ,decide_eq_true_eq] at hC
  have:=hC.2 k hk
  rw [chOk,chIn,jJ,jJ,decide_eq_true_eq] at this
  exact this.1.1
 have e:=(hsh i hi).trans (hsh j hj).symm
 have a5:=(zBk (hp i hi)).2.2.2.2.1
 have b5:=(zBk (hp j hj)).2.2.2.2.1
 rw [qget hi] at hs e a5
 rw [qget hj] at hs e b5
 rw [zJN]
 split
 ·rfl
 ·(first|rw [if_pos e,if_neg]|rw [if_neg])
  intro ho
  rw [Ov,decide_eq_true_eq] at ho
  omega
theorem zNJ {c:zFb} {r:DRegime} {a b:List DPassage} (h:zJO c r a b=false) {p q:DPassage} (hp:p ∈ a) (hq:q ∈ b):zJN c r p q=0:=by
 rw [zJO] at h
 have h1:=List.any_eq_false.1 h p hp
 rw [Bool.not_eq_true] at h1
 have h2:=List.any_eq_false.1 h1 q hq
 rw [decide_eq_true_eq,Decidable.not_not] at h2
 exact h2
theorem zNK {x:DHarbour} {a:DCall} {o:POption} (ho:o ∈ zy1 (Con.con x) a):zvB (Con.con x) a=true:=by
 cases hok:zvB (Con.con x) a with
 | true=>rfl
 | false=>rw [zy5 hok] at ho;cases ho
theorem zNL {x:DHarbour} {calls:List DCall} (hc:zJJ (Con.con x) calls=true) (hs:(zLC (Con.con x) calls).2.2=true) :
  (∀ o ∈ (zKK (Con.con x) calls (zLC (Con.con x) calls).1).1,∀ p ∈ o.pas,zCr (Con.con x.forecast) (Con.con x.chart) x.fleet.l p=true) ∧
  zNG (Con.con x.chart) x.regime ((zKK (Con.con x) calls (zLC (Con.con x) calls).1).1.flatMap (·.pas))=true ∧
  (0≤zKh (Con.con x.crew) (Con.con x.chart) x.fleet.l ((zKK (Con.con x) calls (zLC (Con.con x) calls).1).1.flatMap (·.pas)) ∧
   zKh (Con.con x.crew) (Con.con x.chart) x.fleet.l ((zKK (Con.con x) calls (zLC (Con.con x) calls).1).1.flatMap (·.pas))≤x.crew.tugs) ∧
  (0≤zBq (Con.con x.crew) (Con.con x.chart) x.fleet.l (zKE (zKK (Con.con x) calls (zLC (Con.con x) calls).1).1) ∧
   zBq (Con.con x.crew) (Con.con x.chart) x.fleet.l (zKE (zKK (Con.con x) calls (zLC (Con.con x) calls).1).1)≤x.crew.pilots) ∧
  zKk (Con.con x.crew) (Con.con x.chart) x.fleet.l (zKE (zKK (Con.con x) calls (zLC (Con.con x) calls).1).1)=true ∧
  zKh (Con.con x.crew) (Con.con x.chart) x.fleet.l ((zKK (Con.con x) calls (zLC (Con.con x) calls).1).1.flatMap (·.pas))≤(zJ5 (Con.con x.chart) x.fleet.l ((zKK (Con.con x) calls (zLC (Con.con x) calls).1).1.flatMap (·.pas))).length:=by
 obtain ⟨_,hip,_,_,hlen⟩:=(zMl hc []).2 hs
 have hfl:(Con.con x:zFc).fleet=x.fleet.l:=List.map_id _
 have hmem:∀ o ∈ (zKK (Con.con x) calls (zLC (Con.con x) calls).1).1,∃ a,o ∈ zy1 (Con.con x) a:=by
  rcases zMi hc with ⟨h1,_⟩|⟨_,w,h2,h3,_⟩
  ·rw [h1] at hs;cases hs
  ·rw [h2,zMc hc h3]
   intro o ho
   dsimp only at ho
   obtain ⟨i,hi,rfl⟩:=List.getElem_of_mem ho
   have hl:(zKs (Con.con x) calls).length=calls.length:=List.length_map ..
   have hpl:=zL5 h3
   have:=zMf h3 i (by omega)
   rw [List.getD_eq_getElem?_getD (l:=picks (zKs (Con.con x) calls) w),List.getElem?_eq_getElem hi] at this
   exact ⟨_,this⟩
 generalize (zKK (Con.con x) calls (zLC (Con.con x) calls).1).1=p at *
 have hpas:∀ o ∈ p,zBC (Con.con x.chart) x.fleet.l o.pas:=fun o ho=>by
  obtain ⟨a,h⟩:=hmem o ho
  exact zBK o h
 have hsp:=hip
 rw [← zLf,zLb,zLa] at hsp
 simp only [jJ] at hsp
 have hcs:zKk (Con.con x.crew) (Con.con x.chart) x.fleet.l (zKE p)=true:=by rw [← hfl];exact hsp.2.2
 have hcs2:=hcs
 rw [zKk,jJ,In,In,jJ,jJ,decide_eq_true_eq,decide_eq_true_eq,decide_eq_true_eq,decide_eq_true_eq,zKE,← List.flatMap_def] at hcs2
 refine ⟨fun o ho q hq=>?_,?_,hcs2.1,hcs2.2,hcs,?_⟩
 ·obtain ⟨a,h⟩:=hmem o ho
  exact (zCv (zNK h) h hq).2
 ·have hch:zva (Con.con x.chart)=true∧zvl x.regime=true:=by
   have h:=hc
   rw [zJJ,zvo,jJ,jJ,jJ,jJ,jJ,jJ] at h
   exact ⟨h.1.1.1.1.1.2,h.1.1.1.2⟩
  rw [zNG,hch.1,hch.2,Bool.true_and,Bool.true_and,decide_eq_true_eq,List.flatMap_def,List.pairwise_flatten]
  refine ⟨fun l hl=>?_,?_⟩
  ·obtain ⟨o,ho,rfl⟩:=List.mem_map.1 hl
   have hg:=hpas o ho
   exact zNI hg.2.1 hg.2.2
  ·rw [List.pairwise_map,List.pairwise_iff_getElem]
   intro i j hi hj hij u hu v hv
   rw [zK8,jJ,jJ,decide_eq_true_eq,decide_eq_true_eq] at hip
   have h:=hip.2 j (by omega)
   rw [ipAt,jJ,zK7,jJ,zK6,Bool.not_eq_true'] at h
   have h2:=List.any_eq_false.1 h.2.1 p[i] (by rw [List.mem_take_iff_getElem];exact ⟨i,by omega,rfl⟩)
   rw [Bool.not_eq_true,List.getD_eq_getElem?_getD,List.getElem?_eq_getElem hj] at h2
   exact zNJ h2 hu hv
 ·have ht:=hcs2.1
  rw [zKh] at ht ⊢
  rw [zJ5]
  cases hd:zJ4 (Con.con x.chart) x.fleet.l (p.flatMap (·.pas)) with
  | none=>rw [hd] at ht;dsimp only at ht;omega
  | some d =>
   have hw:zvn (Con.con x.crew)=true:=zLe hc
   dsimp only
   rw [if_pos hw]
   refine (zCc (p:=0) (m:=(Con.con x.crew).moves) (l:=d) ?_).2.1
   rw [zA5,zKg hd,(zBn hw).2]
   rfl
theorem zEq {f:zFa} {m:Int} (h:¬ (zuY f=true∧0≤m∧m≤2880)):(zuY f && (decide (0≤m) && decide (m≤2880)))=false:=by
 rw [Bool.eq_false_iff]
 intro h9
 rw [jJ,jJ,decide_eq_true_eq,decide_eq_true_eq] at h9
 exact h h9
theorem zNM (f:DForecast) (m:Int) (h:Hp) (hf:Enc.ok h f):Ct jV 12 [f.v,.int .i64 m] h fun v h'=>v=.int .i64 (zNE (Con.con f) m)∧h'=h:=by
 by_cases hq:zuY (Con.con f)=true∧0≤m∧m≤2880
 case neg =>
  rw [zNE,if_neg hq]
  refine zdn (fun A W=>by simp) Tryz.func12 rfl rfl (by simp) fun W0=>?_
  repeat' first|refine Wa ?_|refine zhF (fun _=>zu0 f _ hf) ?_|refine zhF (fun _=>zun _ _) ?_|(simp only [go_sem,jq,jj,jy,jv,jk,jx];try rfl)|refine Wb ?_|fail
  refine zc9 rfl (fun hc=>?_) (fun hc=>?_)
  ·exact Wk0
  ·have:=zEq hq
   simp_all
 rw [zNE,if_pos hq]
 have hn:0 < f.surges.l.length:=by have:=zvW hq.1;rwa [zvX] at this
 refine zdn (fun A W=>by simp) Tryz.func12 rfl rfl (by simp) fun W0=>?_
 repeat' first|refine Wa ?_|refine zhF (fun _=>zu0 f _ hf) ?_|refine zhF (fun _=>zun _ _) ?_|(simp only [go_sem,jq,jj,jy,jv,jk,jx];try rfl)|refine Wb ?_|fail
 refine zc9 rfl (fun hc=>?_) (fun hc=>?_)
 ·rw [hq.1] at hc;simp [hq.2.1,hq.2.2] at hc
 repeat' first|refine Wa ?_|refine zhF (fun _=>zv8 f m _ hf hn) ?_|(simp only [go_sem,jq,jj,jy,jv,jk,jx];try rfl)|refine Wb ?_|fail
theorem zNN (c:DChart) (k:Int) (s:DShip) (lv:Int) (h:Hp) (hc:Enc.ok h c) (hs:Enc.ok h s):Ct jV 11 [c.v,.int .i64 k,s.v,.int .i64 lv] h fun v h'=>v=.bool (zND (Con.con c) k s lv)∧h'=h:=by
 rw [zND]
 refine zdn (fun A W=>by simp) Tryz.func11 rfl rfl (by simp) fun W0=>?_
 repeat' first|refine Wa ?_|refine zhF (fun _=>zwL c k s _ hc hs) ?_|refine zhF (fun _=>zwM c k s _ hc hs) ?_|(simp only [go_sem,jq,jj,jy,jv,jk,jx];try rfl)|refine Wb ?_|fail
set_option maxRecDepth 100000 in
theorem zNO (x:DChart) (r:DRegime) (a:Sl DPassage) (h:Hp) (hx:Enc.ok h x) (hR:Enc.ok h r) (ha:a.Ok h):Ct jV 50 [x.v,r.v,a.val] h fun v h' =>
  ∃ i j c:Int,v=.tuple #[.int .i64 i,.int .i64 j,.int .i64 c]∧(zva (Con.con x)=true→zvl r=true→(c=0 ↔ a.l.Pairwise fun p q=>zJN (Con.con x) r p q=0))∧h'=h:=by
 have hla:=ha.max
 refine zdn (fun A W=>by simp) Tryz.func50 rfl rfl (by simp) fun W0=>?_
 repeat' first|refine Wa ?_|refine zhF (fun _=>zvh x _ hx) ?_|refine zhF (fun _=>zvs r _) ?_|(simp only [go_sem,jq,jj,jy,jv,jk,jx];try rfl)|refine Wb ?_|fail
 refine zc9 rfl (fun hc=>?_) (fun hc=>?_)
 case refine_2 =>
  refine Wk ?_
  exact ⟨-1,-1,0,rfl,fun h1 h2=>by rw [h1,h2] at hc;cases hc⟩
 obtain ⟨hC,hr⟩:=Bool.and_eq_true_iff.1 hc
 refine Wk ?_
 refine zde (ι:=Nat) (fun k=>⟨[(2,true,.c (.v a.val)),(3,true,.c (.p 0 0)),(4,true,.c (.p 1 0)),(6,true,.c (.v (.int .i64 0))),(7,true,.c (.v (.int .i64 0))),(8,true,.c (.v (.int .i64 0))),(20,true,.c (.v a.val)),(21,true,.c (.v (.int .i64 a.l.length))),(22,true,.c (.v (.int .i64 k)))],[(0,.box 32 [.v x.points.val,.v x.segments.val]),(1,.box 35 [.v (.int .i64 r.gap),.v (.bool r.noMeet)])],h,2⟩)
  (fun k=>k≤a.l.length∧(a.l.take k).Pairwise fun p q=>zJN (Con.con x) r p q=0) (fun k=>a.l.length - k) 0 ⟨Nat.zero_le _,by rw [List.take_zero];exact List.Pairwise.nil⟩ ?_ ?_
 ·refine Evs ?_
  exact Gk
 intro k hk
 have hcap:k≤a.cap:=by have:=ha.1;omega
 have hcapi:(k:Int)≤a.cap:=by omega
 refine Wk ?_
 refine zc9 rfl (fun hd=>?_) (fun hd=>?_)
 ·have hlt:=zjH hd
  repeat' first|refine Wa ?_|(simp only [go_sem,jq,jj,jy,jv,jk,jx,zky ha hlt,ha.some hlt,hlt,jW,jY,hcap,hcapi,ite_self,Int.toNat_zero,Nat.zero_mul,zmA,zmB,Nat.sub_zero,zmC (Nat.le_of_lt hlt)];try rfl)|refine Wb ?_|fail
  have hto:(a.to k).l.length=k:=by show (a.l.take k).length=k;rw [List.length_take];omega
  have hat:=Sl.to_ok ha k
  refine zde (ι:=Nat) (fun j=>⟨[(2,true,.c (.v a.val)),(3,true,.c (.p 0 0)),(4,true,.c (.p 1 0)),(6,true,.c (.v (.int .i64 0))),(7,true,.c (.v (.int .i64 0))),(8,true,.c (.v (.int .i64 0))),(9,true,.c (.v (.int .i64 k))),(10,true,.c (.p 2 0)),(20,true,.c (.v a.val)),(21,true,.c (.v (.int .i64 a.l.length))),(22,true,.c (.v (.int .i64 k))),(29,true,.c (.v (a.to k).val)),(30,true,.c (.v (.int .i64 k))),(31,true,.c (.v (.int .i64 j)))],[(0,.box 32 [.v x.points.val,.v x.segments.val]),(1,.box 35 [.v (.int .i64 r.gap),.v (.bool r.noMeet)]),(2,.box 55 ((Enc.enc a.l[k]).map SC.v))],h,3⟩)
   (fun j=>j≤k∧∀ i (hi:i < j) (hk:i < a.l.length),zJN (Con.con x) r a.l[i] a.l[k]=0) (fun j=>k - j) 0 ⟨Nat.zero_le _,fun i hi=>absurd hi (Nat.not_lt_zero i)⟩ ?_ ?_
  ·simp only [go_sem,jq,jj,jy,jv,jk,jx,hto]
   exact Gk
  intro j hj
  refine Wk ?_
  refine zc9 rfl (fun hd2=>?_) (fun hd2=>?_)
  ·have hltj:=zjH hd2
   have hltj2:j < (a.to k).l.length:=by omega
   have hel:(a.to k).l[j]=a.l[j]:=List.getElem_take ..
   repeat' first|refine Wa ?_|refine zhF (fun _=>zJW x r a.l[j] a.l[k] _ hx hr (ha.el (by omega)) (ha.el hlt)) ?_|(simp only [go_sem,jq,jj,jy,jv,jk,jx,zky hat hltj2,hat.some hltj2,hltj2,hel,jW];try rfl)|refine Wb ?_|fail
   refine zc9 rfl (fun hq=>?_) (fun hq=>?_)
   ·refine Wk ?_
    refine ⟨j,k,zJN (Con.con x) r a.l[j] a.l[k],rfl,fun _ _=>⟨fun h0=>absurd h0 (zjD hq),fun hp=>?_⟩⟩
    exact List.pairwise_iff_getElem.1 hp j k (by omega) hlt hltj
   ·have hq0:zJN (Con.con x) r a.l[j] a.l[k]=0:=by simpa using hq
    refine Wk ?_
    refine ⟨j+1,⟨hltj,fun i hi hi2=>?_⟩,by omega,zjB (zjA hltj (by omega))⟩
    rcases Nat.lt_or_ge i j with h1|h1
    ·exact hj.2 i h1 hi2
    ·obtain rfl:i=j:=by omega
     exact hq0
  ·have hge:=zjI hd2
   refine Wk ?_
   refine ⟨k+1,⟨hlt,?_⟩,by omega,zjB (zjA hlt (by omega))⟩
   rw [List.take_succ_eq_append_getElem hlt,List.pairwise_append]
   refine ⟨hk.2,List.pairwise_singleton ..,fun p hp q hq=>?_⟩
   rw [List.mem_singleton.1 hq]
   obtain ⟨i,hi,rfl⟩:=List.getElem_of_mem hp
   rw [List.length_take] at hi
   rw [List.getElem_take]
   exact hj.2 i (by omega) (by omega)
 ·have hge:=zjI hd
  refine Wk ?_
  refine ⟨-1,-1,0,rfl,fun _ _=>⟨fun _=>?_,fun _=>rfl⟩⟩
  have:=hk.2
  rwa [List.take_of_length_le hge] at this
set_option maxRecDepth 100000 in
theorem zNP (x:DChart) (r:DRegime) (a:Sl DPassage) (h:Hp) (hx:Enc.ok h x) (hR:Enc.ok h r) (ha:a.Ok h):Ct jV 16 [x.v,r.v,a.val] h fun v h'=>v=.bool (zNG (Con.con x) r a.l)∧h'=h:=by
 refine zdn (fun A W=>by simp) Tryz.func16 rfl rfl (by simp) fun W0=>?_
 refine Wk ?_
 refine zkj (zNO x r a _ hx hR ha) rfl ?_
 rintro v h1 le1 ⟨i,j,c,rfl,hcc,rfl⟩
 have key:(zva (Con.con x) && zvl r && (c == 0))=zNG (Con.con x) r a.l:=by
  rw [zNG]
  cases h1:zva (Con.con x) with
  | false=>rfl
  | true =>
   cases h2:zvl r with
   | false=>rfl
   | true =>
    rw [Bool.and_self,Bool.true_and,Bool.true_and]
    by_cases hc:c=0
    ·rw [decide_eq_true ((hcc h1 h2).1 hc),hc];rfl
    ·rw [decide_eq_false (fun h=>hc ((hcc h1 h2).2 h))];simpa using hc
 rw [← key]
 repeat' first|refine Wa ?_|refine zhF (fun _=>zvh x _ hx) ?_|refine zhF (fun _=>zvs r _) ?_|(simp only [go_sem,jq,jj,jy,jv,jk,jx];try rfl)|refine Wb ?_|fail
theorem zC4 (f:DForecast) (c:DChart) (k:Int) (s:DShip) (m:Int) (h:Hp) (hf:Enc.ok h f) (hc:Enc.ok h c) (hs:Enc.ok h s):Ct jV 39 [f.v,c.v,.int .i64 k,s.v,.int .i64 m] h fun v h'=>v=.bool (zCq (Con.con f) (Con.con c) k s m)∧h'=h:=by
 refine Ct.forget ?_
 refine zdn (fun A W=>by simp) Tryz.func39 rfl rfl (by simp) fun W0=>?_
 refine Wk ?_
 refine zkj (zwR f c k s _ hf hc hs) rfl ?_
 rintro v h1 le1 ⟨r,rfl,e1,ok1,m1⟩
 repeat' first|refine Wa ?_|refine zhF (fun _=>zwk r m _ ok1) ?_|(simp only [go_sem,jq,jj,jy,jv,jk,jx];try rfl)|refine Wb ?_|fail
 rw [zCq,e1]
theorem zC5 (f:DForecast) (c:DChart) (fl:Sl DShip) (p:DPassage) (h:Hp) (hfo:Enc.ok h f) (hc:Enc.ok h c) (hf:fl.Ok h):Ct jV 10 [f.v,c.v,fl.val,p.v] h fun v h'=>v=.bool (zCr (Con.con f) (Con.con c) fl.l p)∧h'=h:=by
 refine Ct.forget ?_
 refine zdn (fun A W=>by simp) Tryz.func10 rfl rfl (by simp) fun W0=>?_
 refine Wk ?_
 cases hp:zvI (Con.con c) fl.l p with
 | false =>
  rw [show zCr (Con.con f) (Con.con c) fl.l p=false by rw [zCr,hp];rfl]
  refine znv rfl ?_
  refine U_t [0,1,2] rfl ?_
  simp only [go_sem,jq,jj,jy,jv,jk,jx,hp,implies_true,true_and,and_true,and_self,reduceCtorEq,Bool.false_eq_true,false_implies]
  refine U_1 3 0 [] rfl rfl ?_
  simp only [go_sem,jq,jj,jy,jv,jk,jx,hp,implies_true,true_and,and_true,and_self,reduceCtorEq,Bool.false_eq_true,false_implies]
  refine zhF (fun _=>zvP c fl p _ hc hf) ?_
  simp only [go_sem,jq,jj,jy,jv,jk,jx,hp,implies_true,true_and,and_true,and_self,reduceCtorEq,Bool.false_eq_true,false_implies]
  refine U_t [4,5,6,7,9,10,14,8,11,15,12,13] rfl ?_
  simp only [go_sem,jq,jj,jy,jv,jk,jx,hp,implies_true,true_and,and_true,and_self,reduceCtorEq,Bool.false_eq_true,false_implies]
  refine U_1 16 0 [] rfl rfl ?_
  simp only [go_sem,jq,jj,jy,jv,jk,jx,hp,implies_true,true_and,and_true,and_self,reduceCtorEq,Bool.false_eq_true,false_implies]
  refine ⟨List.all_eq_true.2 fun y hy=>by obtain ⟨z,_,rfl⟩:=List.mem_map.1 hy;rfl,?_⟩
  refine zhF (V:=.bool false) (fun hg=>by cases hg) ?_
  simp only [go_sem,jq,jj,jy,jv,jk,jx,hp,implies_true,true_and,and_true,and_self,reduceCtorEq,Bool.false_eq_true,false_implies]
  refine U_t [17,18] rfl ?_
  simp only [go_sem,jq,jj,jy,jv,jk,jx,hp,implies_true,true_and,and_true,and_self,reduceCtorEq,Bool.false_eq_true,false_implies]
  refine U_d ?_
  exact Wk0
 | true =>
  have hq:=hp
  rw [zvI,jJ,jJ,zvH,jJ,decide_eq_true_eq] at hq
  have hi0:0≤p.ship:=hq.2.1.1
  have hi:p.ship.toNat < fl.l.length:=by have:=hq.2.1.2.1;omega
  have hii:p.ship < fl.l.length:=hq.2.1.2.1
  rw [show zCr (Con.con f) (Con.con c) fl.l p=zCq (Con.con f) (Con.con c) p.seg fl.l[p.ship.toNat] p.start by rw [zCr,hp,hget hi];rfl]
  refine znv rfl ?_
  refine U_t [0,1,2] rfl ?_
  simp only [go_sem,jq,jj,jy,jv,jk,jx,hp,zk0 hf hi,hf.some hi,hi,hii,hi0,jW,implies_true,true_and,and_true,and_self,reduceCtorEq,Bool.false_eq_true,false_implies]
  refine U_1 3 0 [] rfl rfl ?_
  simp only [go_sem,jq,jj,jy,jv,jk,jx,hp,zk0 hf hi,hf.some hi,hi,hii,hi0,jW,implies_true,true_and,and_true,and_self,reduceCtorEq,Bool.false_eq_true,false_implies]
  refine zhF (fun _=>zvP c fl p _ hc hf) ?_
  simp only [go_sem,jq,jj,jy,jv,jk,jx,hp,zk0 hf hi,hf.some hi,hi,hii,hi0,jW,implies_true,true_and,and_true,and_self,reduceCtorEq,Bool.false_eq_true,false_implies]
  refine U_t [4,5,6,7,9,10,14,8,11,15,12,13] rfl ?_
  simp only [go_sem,jq,jj,jy,jv,jk,jx,hp,zk0 hf hi,hf.some hi,hi,hii,hi0,jW,implies_true,true_and,and_true,and_self,reduceCtorEq,Bool.false_eq_true,false_implies]
  refine U_1 16 0 [] rfl rfl ?_
  simp only [go_sem,jq,jj,jy,jv,jk,jx,hp,zk0 hf hi,hf.some hi,hi,hii,hi0,jW,implies_true,true_and,and_true,and_self,reduceCtorEq,Bool.false_eq_true,false_implies]
  refine zhF (fun _=>zC4 f c p.seg fl.l[p.ship.toNat] p.start _ hfo hc (hf.el hi)) ?_
  simp only [go_sem,jq,jj,jy,jv,jk,jx,hp,zk0 hf hi,hf.some hi,hi,hii,hi0,jW,implies_true,true_and,and_true,and_self,reduceCtorEq,Bool.false_eq_true,false_implies]
  refine U_t [17,18] rfl ?_
  simp only [go_sem,jq,jj,jy,jv,jk,jx,hp,zk0 hf hi,hf.some hi,hi,hii,hi0,jW,implies_true,true_and,and_true,and_self,reduceCtorEq,Bool.false_eq_true,false_implies]
  refine U_d ?_
  exact Wk0
theorem zC7 (c:Sl U8) (h:Hp) (hc:c.Ok h):Ct jV 28 [c.val] h fun v h'=>∃ b,v=.pointer (some ⟨b,0,none⟩)∧h b=none∧Cu 129 c h' b:=by
 have hm:=hc.max
 refine zdn (fun A W=>by simp) Tryz.func28 rfl rfl (by simp) fun W0=>?_
 refine Wk ?_
 refine zde (ι:=Nat × Int) (fun i=>⟨[(0,true,.c (.v c.val)),(3,true,.c (.v (.int .i64 i.2))),(4,true,.c (.v (.int .i64 i.1)))],[],h,0⟩) (fun i=>i.1≤c.l.length) (fun i=>c.l.length - i.1) (0,IntKind.i64.wrap (1976+c.l.length)) (Nat.zero_le _) ?_ ?_
 ·refine Evs ?_
  repeat' first|exact rfl|exact trivial|assumption|decide|refine And.intro ?_ ?_
 rintro ⟨i,k⟩ hi
 simp only at hi
 refine Wk ?_
 refine zc9 rfl (fun hd=>?_) (fun hd=>?_)
 ·have hlt:i < c.l.length:=by
   simp at hd
   omega
  have hlti:(i:Int) < c.l.length:=by omega
  repeat' first|refine Wa ?_|(simp only [go_sem,jq,jj,jy,jv,jk,jx,zon hc hlt,hc.some hlt,hlt,hlti,jW,jY,and_self];try rfl)|refine Wb ?_|fail
  refine ⟨(i+1,zaE .and .i64 (IntKind.i64.wrap (IntKind.i64.wrap (IntKind.i64.wrap (k * 79)+IntKind.i64.wrap c.l[i].n)+7)) 1073741823),hlt,by simp only;omega,?_⟩
  refine Evs ?_
  repeat' first|exact zjB (zjA hlt (by omega))|exact rfl|exact trivial|assumption|decide|refine And.intro ?_ ?_
 refine zc6 ?_
 refine Evs ?_
 (first|refine zie rfl ?_|refine zc4 rfl ?_|(refine zc3 ?_;first|refine zie rfl ?_|refine zc4 rfl ?_));simp only [go_sem,jq,jj,jy,jv,jk,jx]
 refine zmE 0 rfl rfl fun g hg og=>?_
 refine Wk ?_
 exact ⟨g,rfl,hg,by rw [zor,zos hg];exact hc,0,k,Hp.ins_same,Int.le_refl _,by omega⟩
theorem zC8 {tc:TypeId} {h:Hp} {b:Nat} {c:Sl U8} {i k:Int} (hb:h b=some (.cells #[c.val,.int .i64 i,.int .i64 k] tc (0,0))):h.lds (some ⟨b,0,none⟩) 1=some [c.val]∧h.lds (some ⟨b,1,none⟩) 1=some [.int .i64 i]∧h.lds (some ⟨b,2,none⟩) 1=some [.int .i64 k] :=
 ⟨zmG (xs:=[c.val,.int .i64 i,.int .i64 k]) hb rfl (Nat.le_of_ble_eq_true rfl),zmG (xs:=[c.val,.int .i64 i,.int .i64 k]) hb rfl (Nat.le_of_ble_eq_true rfl),zmG (xs:=[c.val,.int .i64 i,.int .i64 k]) hb rfl (Nat.le_of_ble_eq_true rfl)⟩
theorem zC9 (c:Sl U8) (h:Hp) (b:Nat) (H:Cu 129 c h b):Cw jV 61 [.pointer (some ⟨b,0,none⟩)] h (fun k=>k=b) fun v h'=>∃ n:Int,(v=.int .i64 n∧0≤n∧n≤255)∧Cg 129 c h b h':=by
 have H0:=H
 obtain ⟨hc,i,k,hb,hi0,hi1⟩:=H0
 have hcm:=hc.max
 obtain ⟨q0,q1,q2⟩:=zC8 hb
 refine zlh (fun A W=>by simp) Tryz.func61 rfl rfl (by simp)  (fun q hq=>by rw [hq];exact H.ne) fun W0 hW=>?_
 have own:W0.own b:=hW b rfl
 (first|refine zie rfl ?_|refine zc4 rfl ?_|(refine zc3 ?_;first|refine zie rfl ?_|refine zc4 rfl ?_));simp only [go_sem,jq,jj,jy,jv,jk,jx]
 first|refine zmR [0,0,0,0,0,0,0,0,0,1] rfl ?_|refine zmQ [0,0,0,0,0,0,0,0,0,1] rfl ?_|(refine zc3 ?_;first|refine zmR [0,0,0,0,0,0,0,0,0,1] rfl ?_|refine zmQ [0,0,0,0,0,0,0,0,0,1] rfl ?_)
 simp only [go_sem,jq,jj,jy,jv,jk,jx,q2,true_or,true_and]
 refine zow (xs:=[c.val,.int .i64 i,.int .i64 k]) (xs':=[c.val,.int .i64 i,.int .i64 (IntKind.i64.wrap (IntKind.i64.wrap (k * 6364136223846793005)+1442695040888963407))]) (by simp only [go_sem]) (by simp only [go_sem]) rfl rfl hb (.inr own) (Nat.le_of_ble_eq_true rfl) rfl ?_
 generalize IntKind.i64.wrap (IntKind.i64.wrap (k * 6364136223846793005)+1442695040888963407)=k1
 have hb1:(h.ins b (.cells #[c.val,.int .i64 i,.int .i64 k1] 129 (0,0))) b=some (.cells #[c.val,.int .i64 i,.int .i64 k1] 129 (0,0)):=Hp.ins_same
 have hd1:(h.ins b (.cells #[c.val,.int .i64 i,.int .i64 k1] 129 (0,0))).del b=h.del b:=zor
 generalize h.ins b (.cells #[c.val,.int .i64 i,.int .i64 k1] 129 (0,0))=h1 at hb1 hd1 ⊢
 have hc1:c.Ok h1:=Sl.Ok.mono zoq (by rw [hd1];exact hc)
 obtain ⟨q0,q1,q2⟩:=zC8 hb1
 refine Wk ?_
 refine zi8 rfl (by kernel_rfl) ?_
 simp only [go_sem,jq,jj,jy,jv,jk,jx,q0,q1,q2,true_or,true_and,and_true,implies_true,and_self]
 refine ⟨by decide,by decide,?_⟩
 generalize hx:zaE BinOp.and IntKind.i64 (zaE BinOp.xor IntKind.i64 (k1.fdiv (2 ^ min (Int.toNat 33) 64)) (k1.fdiv (2 ^ min (Int.toNat 45) 64))) 255=x
 have hx0:0≤x∧x≤255:=by rw [← hx];exact zop _
 refine Wk ?_
 refine zi8 rfl (by kernel_rfl) ?_
 simp only [go_sem,jq,jj,jy,jv,jk,jx,q0,q1,q2,true_or,true_and,and_true,implies_true,and_self]
 try (refine zc3 ?_)
 refine zc9 rfl (fun hd=>?_) (fun hd=>?_)
 ·have hd:=of_decide_eq_true hd
  obtain ⟨j,rfl⟩:∃ j:Nat,i=j:=⟨i.toNat,by omega⟩
  have hj:j < c.l.length:=by omega
  try (refine zc3 ?_)
  refine zi8 rfl (by kernel_rfl) ?_
  simp only [go_sem,jq,jj,jy,jv,jk,jx,q0,q1,q2,zon hc1 hj,hc1.some hj,hj,hd,jW,jY,true_or,true_and,and_true,implies_true,and_self]
  generalize hy:zaE BinOp.and IntKind.i64 (IntKind.i64.wrap (x+IntKind.i64.wrap c.l[j].n)) 255=y
  have hy0:0≤y∧y≤255:=by rw [← hy];exact zop _
  first|refine zmR [0,0,0,0,0,0,0,0,1] rfl ?_|refine zmQ [0,0,0,0,0,0,0,0,1] rfl ?_|(refine zc3 ?_;first|refine zmR [0,0,0,0,0,0,0,0,1] rfl ?_|refine zmQ [0,0,0,0,0,0,0,0,1] rfl ?_)
  simp only [go_sem,jq,jj,jy,jv,jk,jx,q1,true_or,true_and]
  refine zow (xs:=[c.val,.int .i64 j,.int .i64 k1]) (xs':=[c.val,.int .i64 (IntKind.i64.wrap (j+1)),.int .i64 k1]) (by simp only [go_sem]) (by simp only [go_sem]) rfl rfl hb1 (.inr own) (Nat.le_of_ble_eq_true rfl) rfl ?_
  refine Wk ?_
  have hdi:(h1.ins b (.cells [c.val,.int .i64 (IntKind.i64.wrap ((j:Int)+1)),.int .i64 k1].toArray 129 (0,0))).del b=h.del b:=by rw [zor,hd1]
  exact ⟨y,⟨rfl,hy0⟩,⟨by rw [hdi];exact hc,_,k1,Hp.ins_same,by rw [zjz (by omega)];omega,by rw [zjz (by omega)];omega⟩,by rw [hdi];exact Hp.le_refl _⟩
 ·refine Wk ?_
  exact ⟨x,⟨rfl,hx0⟩,⟨by rw [hd1];exact hc,_,k1,hb1,hi0,hi1⟩,by rw [hd1];exact Hp.le_refl _⟩
theorem zDa {n m:Int} (hn:0≤n) (hm:0 < m):0≤Int.tmod n m∧Int.tmod n m < m:=⟨Int.tmod_nonneg _ hn,Int.tmod_lt_of_pos _ hm⟩
theorem zDb (c:Sl U8) (n:Int) (h:Hp) (b:Nat) (H:Cu 129 c h b) (hn:0 < n):Cw jV 105 [.pointer (some ⟨b,0,none⟩),.int .i64 n] h (fun k=>k=b) fun v h'=>∃ k:Int,(v=.int .i64 k∧0≤k∧k < n)∧Cg 129 c h b h':=by
 have hn0:n ≠ 0:=by omega
 refine zlh (fun A W=>by simp) Tryz.func105 rfl rfl (by simp)  (fun q hq=>by rw [hq];exact H.ne) fun W0 hW=>?_
 have own:W0.own b:=hW b rfl
 (first|refine zie rfl ?_|refine zc4 rfl ?_|(refine zc3 ?_;first|refine zie rfl ?_|refine zc4 rfl ?_));simp only [go_sem,jq,jj,jy,jv,jk,jx]
 (first|refine zie rfl ?_|refine zc4 rfl ?_|(refine zc3 ?_;first|refine zie rfl ?_|refine zc4 rfl ?_));simp only [go_sem,jq,jj,jy,jv,jk,jx]
 try (refine zc3 ?_)
 refine zc9 rfl (fun hq=>?_) (fun hq=>?_)
 ·have:=of_decide_eq_true hq;omega
 refine zc5 ?_
 refine Evs ?_
 (first|refine zie rfl ?_|refine zc4 rfl ?_|(refine zc3 ?_;first|refine zie rfl ?_|refine zc4 rfl ?_));simp only [go_sem,jq,jj,jy,jv,jk,jx]
 try (refine zc3 ?_)
 refine zc9 rfl (fun hq=>?_) (fun hq=>?_)
 ·first|refine zmR [0,1] rfl ?_|refine zmQ [0,1] rfl ?_|(refine zc3 ?_;first|refine zmR [0,1] rfl ?_|refine zmQ [0,1] rfl ?_)
  refine Evs ?_
  refine zli (zC9 c _ b H) rfl (fun q hq=>⟨by rw [hq];exact H.ne,.inr (hq ▸ own)⟩) ?_
  rintro v h1 - ⟨k1,⟨rfl,a1,b1⟩,G1⟩
  have C1:=G1.1
  refine Evs ?_
  have hk:=zDa a1 hn
  repeat' first|refine Wa ?_|(simp only [go_sem,jq,jj,jy,jv,jk,jx,hn0];try rfl)|refine Wb ?_|fail
  exact ⟨_,⟨rfl,hk⟩,G1⟩
 refine zc5 ?_
 refine Evs ?_
 first|refine zmR [0,1] rfl ?_|refine zmQ [0,1] rfl ?_|(refine zc3 ?_;first|refine zmR [0,1] rfl ?_|refine zmQ [0,1] rfl ?_)
 refine Evs ?_
 refine zli (zC9 c _ b H) rfl (fun q hq=>⟨by rw [hq];exact H.ne,.inr (hq ▸ own)⟩) ?_
 rintro v h1 - ⟨k1,⟨rfl,a1,b1⟩,G1⟩
 have C1:=G1.1
 refine Evs ?_
 first|refine zmR [0,1] rfl ?_|refine zmQ [0,1] rfl ?_|(refine zc3 ?_;first|refine zmR [0,1] rfl ?_|refine zmQ [0,1] rfl ?_)
 refine Evs ?_
 refine zli (zC9 c _ b C1) rfl (fun q hq=>⟨by rw [hq];exact C1.ne,.inr (hq ▸ own)⟩) ?_
 rintro v h2 - ⟨k2,⟨rfl,a2,b2⟩,G2⟩
 have C2:=G2.1
 refine Evs ?_
 first|refine zmR [0,1] rfl ?_|refine zmQ [0,1] rfl ?_|(refine zc3 ?_;first|refine zmR [0,1] rfl ?_|refine zmQ [0,1] rfl ?_)
 refine Evs ?_
 refine zli (zC9 c _ b C2) rfl (fun q hq=>⟨by rw [hq];exact C2.ne,.inr (hq ▸ own)⟩) ?_
 rintro v h3 - ⟨k3,⟨rfl,a3,b3⟩,G3⟩
 have C3:=G3.1
 refine Evs ?_
 first|refine zmR [0,1] rfl ?_|refine zmQ [0,1] rfl ?_|(refine zc3 ?_;first|refine zmR [0,1] rfl ?_|refine zmQ [0,1] rfl ?_)
 refine Evs ?_
 refine zli (zC9 c _ b C3) rfl (fun q hq=>⟨by rw [hq];exact C3.ne,.inr (hq ▸ own)⟩) ?_
 rintro v h4 - ⟨k4,⟨rfl,a4,b4⟩,G4⟩
 have C4:=G4.1
 refine Evs ?_
 have hw:IntKind.i64.wrap (IntKind.i64.wrap (IntKind.i64.wrap (IntKind.i64.wrap (k1 * 16777216)+IntKind.i64.wrap (k2 * 65536))+IntKind.i64.wrap (k3 * 256))+k4)=k1 * 16777216+k2 * 65536+k3 * 256+k4:=by
  rw [zjz (n:=k1 * 16777216) (by omega),zjz (n:=k2 * 65536) (by omega),zjz (n:=k3 * 256) (by omega),zjz (n:=k1 * 16777216+k2 * 65536) (by omega),zjz (n:=k1 * 16777216+k2 * 65536+k3 * 256) (by omega),zjz (by omega)]
 have hk:=zDa (n:=k1 * 16777216+k2 * 65536+k3 * 256+k4) (by omega) hn
 repeat' first|refine Wa ?_|(simp only [go_sem,jq,jj,jy,jv,jk,jx,hn0,hw];try rfl)|refine Wb ?_|fail
 exact ⟨_,⟨rfl,hk⟩,((G1.trans G2).trans G3).trans G4⟩
theorem zDc (c:Sl U8) (n:Int) (h:Hp) (b:Nat) (H:Cu 129 c h b) (hn:0 < n):Cw jV 64 [.pointer (some ⟨b,0,none⟩),.int .i64 n] h (fun k=>k=b) fun v h'=>∃ k:Bool,v=.bool k∧Cg 129 c h b h':=by
 refine zlh (fun A W=>by simp) Tryz.func64 rfl rfl (by simp)  (fun q hq=>by rw [hq];exact H.ne) fun W0 hW=>?_
 have own:W0.own b:=hW b rfl
 (first|refine zie rfl ?_|refine zc4 rfl ?_|(refine zc3 ?_;first|refine zie rfl ?_|refine zc4 rfl ?_));simp only [go_sem,jq,jj,jy,jv,jk,jx]
 first|refine zmR [0,0,1] rfl ?_|refine zmQ [0,0,1] rfl ?_|(refine zc3 ?_;first|refine zmR [0,0,1] rfl ?_|refine zmQ [0,0,1] rfl ?_)
 refine Evs ?_
 refine zli (zDb c n _ b H hn) rfl (fun q hq=>⟨by rw [hq];exact H.ne,.inr (hq ▸ own)⟩) ?_
 rintro v h1 - ⟨k1,⟨rfl,a1,b1⟩,G1⟩
 have C1:=G1.1
 refine Evs ?_
 refine Wk ?_
 exact ⟨_,rfl,G1⟩
theorem zDd (c:Sl U8) (s:Sl Int) (h:Hp) (b:Nat) (H:Cu 129 c h b) (hs:s.Ok (h.del b)) (hn:0 < s.l.length):Cw jV 148 [.pointer (some ⟨b,0,none⟩),s.val] h (fun k=>k=b) fun v h'=>∃ k:Int,(v=.int .i64 k∧k ∈ s.l)∧Cg 129 c h b h':=by
 refine zlh (fun A W=>by simp) Tryz.func148 rfl rfl (by simp)  (fun q hq=>by rw [hq];exact H.ne) fun W0 hW=>?_
 have own:W0.own b:=hW b rfl
 (first|refine zie rfl ?_|refine zc4 rfl ?_|(refine zc3 ?_;first|refine zie rfl ?_|refine zc4 rfl ?_));simp only [go_sem,jq,jj,jy,jv,jk,jx]
 first|refine zmR [0,0,0,0,1] rfl ?_|refine zmQ [0,0,0,0,1] rfl ?_|(refine zc3 ?_;first|refine zmR [0,0,0,0,1] rfl ?_|refine zmQ [0,0,0,0,1] rfl ?_)
 refine Evs ?_
 refine zli (zDb c (s.l.length:Int) _ b H (by omega)) rfl (fun q hq=>⟨by rw [hq];exact H.ne,.inr (hq ▸ own)⟩) ?_
 rintro v h1 - ⟨k1,⟨rfl,a1,b1⟩,G1⟩
 have C1:=G1.1
 refine Evs ?_
 obtain ⟨j,rfl⟩:∃ j:Nat,k1=j:=⟨k1.toNat,by omega⟩
 have hs1:=(hs.mono G1.2).mono zoq
 have hj:j < s.l.length:=by omega
 repeat' first|refine Wa ?_|(simp only [go_sem,jq,jj,jy,jv,jk,jx,zkv hs1 hj,hs1.some hj,hj,b1,jW,jY,and_self];try rfl)|refine Wb ?_|fail
 exact ⟨_,⟨rfl,List.getElem_mem hj⟩,G1⟩
set_option maxRecDepth 30000 in
theorem zDe (c:Sl U8) (h:Hp) (b:Nat) (H:Cu 129 c h b):Cw jV 144 [.pointer (some ⟨b,0,none⟩)] h (fun k=>k=b) fun v h'=>∃ p:DPart,(v=p.v∧zCy p)∧Cg 129 c h b h':=by
 refine zlh (fun A W=>by simp) Tryz.func144 rfl rfl (by simp)  (fun q hq=>by rw [hq];exact H.ne) fun W0 hW=>?_
 have own:W0.own b:=hW b rfl
 (first|refine zie rfl ?_|refine zc4 rfl ?_|(refine zc3 ?_;first|refine zie rfl ?_|refine zc4 rfl ?_));simp only [go_sem,jq,jj,jy,jv,jk,jx]
 first|refine zmR [0,1,0,2,1] rfl ?_|refine zmQ [0,1,0,2,1] rfl ?_|(refine zc3 ?_;first|refine zmR [0,1,0,2,1] rfl ?_|refine zmQ [0,1,0,2,1] rfl ?_)
 refine Evs ?_
 refine zli (zDb c 300 _ b H (by decide)) rfl (fun q hq=>⟨by rw [hq];exact H.ne,.inr (hq ▸ own)⟩) ?_
 rintro v h1 - ⟨k1,⟨rfl,a1,b1⟩,G1⟩
 have C1:=G1.1
 refine Evs ?_
 refine fun ad cap h2 P=>?_
 try simp only [go_sem,jq,jj,jy,jv,jk,jx]
 have P':Pub h1 3 (Enc.size Int) ([744,720,1440,372,240]:List Int).length (([744,720,1440,372,240]:List Int).flatMap Enc.enc) ad cap h2:=P
 obtain ⟨R2,f2,_⟩:=P'.row
 have C2:=C1.grow P.le
 have s2:(Sl.mk ad cap [744,720,1440,372,240]:Sl Int).Ok (h2.del b):=(zou R2 f2 C1.ne).ok (by decide) fun x hx=>by
  show I64 x
  simp only [List.mem_cons,List.not_mem_nil,or_false] at hx
  unfold I64
  omega
 refine zli (zDd c (Sl.mk ad cap [744,720,1440,372,240]) _ b C2 s2 (Nat.succ_pos _)) rfl (fun q hq=>⟨by rw [hq];exact C2.ne,.inr (hq ▸ own)⟩) ?_
 rintro v h3 - ⟨k3,⟨rfl,m3⟩,G3⟩
 have C3:=G3.1
 refine Evs ?_
 have hp:0 < k3:=by
  simp only [List.mem_cons,List.not_mem_nil,or_false] at m3
  omega
 first|refine zmR [0,0,0,1] rfl ?_|refine zmQ [0,0,0,1] rfl ?_|(refine zc3 ?_;first|refine zmR [0,0,0,1] rfl ?_|refine zmQ [0,0,0,1] rfl ?_)
 refine Evs ?_
 refine zli (zDb c k3 _ b C3 hp) rfl (fun q hq=>⟨by rw [hq];exact C3.ne,.inr (hq ▸ own)⟩) ?_
 rintro v h4 - ⟨k4,⟨rfl,a4,b4⟩,G4⟩
 have C4:=G4.1
 refine Evs ?_
 refine Wk ?_
 exact ⟨⟨k1,k3,k4⟩,⟨rfl,a1,b1,m3,a4,b4⟩,((G1.grow P.le).trans G3).trans G4⟩
theorem zDf {h:Hp} {p:DPart} (H:zCy p):Enc.ok h p:=by
 obtain ⟨h1,h2,h3,h4,h5⟩:=H
 simp only [List.mem_cons,List.not_mem_nil,or_false] at h3
 refine ⟨?_,?_,?_⟩ <;> unfold I64 <;> omega
set_option maxRecDepth 30000 in
theorem zDg (c:Sl U8) (h:Hp) (b:Nat) (H:Cu 129 c h b):Cw jV 130 [.pointer (some ⟨b,0,none⟩)] h (fun k=>k=b) fun v h'=>∃ t:DTide,(v=t.v∧zCz t∧Enc.ok (h'.del b) t)∧Cg 129 c h b h':=by
 refine zlh (fun A W=>by simp) Tryz.func130 rfl rfl (by simp)  (fun q hq=>by rw [hq];exact H.ne) fun W0 hW=>?_
 have own:W0.own b:=hW b rfl
 (first|refine zie rfl ?_|refine zc4 rfl ?_|(refine zc3 ?_;first|refine zie rfl ?_|refine zc4 rfl ?_));simp only [go_sem,jq,jj,jy,jv,jk,jx]
 first|refine zmR [0,1] rfl ?_|refine zmQ [0,1] rfl ?_|(refine zc3 ?_;first|refine zmR [0,1] rfl ?_|refine zmQ [0,1] rfl ?_)
 refine Evs ?_
 refine zli (zDb c 300 _ b H (by decide)) rfl (fun q hq=>⟨by rw [hq];exact H.ne,.inr (hq ▸ own)⟩) ?_
 rintro v h1 - ⟨k1,⟨rfl,a1,b1⟩,G1⟩
 have C1:=G1.1
 refine Evs ?_
 first|refine zmR [0,1] rfl ?_|refine zmQ [0,1] rfl ?_|(refine zc3 ?_;first|refine zmR [0,1] rfl ?_|refine zmQ [0,1] rfl ?_)
 refine Evs ?_
 refine zli (zDb c 2 _ b C1 (by decide)) rfl (fun q hq=>⟨by rw [hq];exact C1.ne,.inr (hq ▸ own)⟩) ?_
 rintro v h2 - ⟨k2,⟨rfl,a2,b2⟩,G2⟩
 have C2:=G2.1
 refine Evs ?_
 obtain ⟨n0,hn0⟩:∃ n0:Nat,IntKind.i64.wrap (1+k2)=(n0:Int)∧1≤n0∧n0≤2:=⟨(1+k2).toNat,by rw [zjz (by omega)];omega⟩
 rw [hn0.1]
 refine zoj 1 [.v (.int .i64 k1)] [] 202 3 rfl ?_
 refine Evs ?_
 try (refine zc3 ?_)
 refine zc8 ?_
 refine zoe (ι:=List DPart × Nat × Hp) (fun i=>⟨[(0,true,.c (.v (.pointer (some ⟨b,0,none⟩)))),(2,true,.c (.p 0 0)),(3,true,.c (.p 1 0)),(4,true,.c (.v (.int .i64 i.2.1)))],[(0,.box 25 [.v (.int .i64 0),.v (.slice none 0 0)]),(1,.box 25 [.v (.int .i64 k1),.s 2]),(2,.row 202 3 i.1.length (i.1.flatMap Enc.enc))],i.2.2,3⟩)
  (fun i=>i.1.length+i.2.1=n0∧(∀ p ∈ i.1,zCy p)∧Cg 129 c h b i.2.2) (fun i=>i.2.1) ([],n0,h2) ⟨Nat.zero_add _,(fun p hp=>by cases hp),G1.trans G2⟩ [0,1,2] ?_ ?_
 ·refine Evs ?_
  repeat' first|exact rfl|exact trivial|assumption|decide|refine And.intro ?_ ?_
 rintro ⟨ps,n,hk⟩ ⟨hl,hps,Gk⟩
 simp only at hl hps Gk
 have Ck:=Gk.1
 refine Wk ?_
 refine zc9 rfl (fun hd=>?_) (fun hd=>?_)
 ·have hlt:0 < n:=by have:=of_decide_eq_true hd;omega
  refine Wk ?_
  refine znv rfl ?_
  refine U_t [0,2,1] rfl ?_
  refine Evs ?_
  refine U_1 3 1 [1,0] rfl rfl ?_
  refine Evs ?_
  refine zli (zDe c _ b Ck) rfl (fun q hq=>⟨by rw [hq];exact Ck.ne,.inr (hq ▸ own)⟩) ?_
  rintro v h9 - ⟨p,⟨rfl,gp⟩,G9⟩
  have C9:=G9.1
  refine Evs ?_
  refine U_1 4 0 [1,0] rfl rfl ?_
  refine Evs ?_
  refine U_1 5 0 [] rfl rfl ?_
  refine Evs ?_
  try simp only [go_sem,jq,jj,jy,jv,jk,jx]
  refine ⟨by simp only [maxLen];omega,by omega,?_⟩
  try simp only [go_sem,jq,jj,jy,jv,jk,jx]
  refine U_t [6] rfl ?_
  refine Evs ?_
  refine U_1 7 0 [] rfl rfl ?_
  refine Evs ?_
  refine U_d ?_
  refine Wk ?_
  refine ⟨(ps ++ [p],n - 1,h9),[0,1,4],⟨(by show (ps ++ [p]).length+(n - 1)=n0;rw [List.length_append,List.length_singleton];omega),fun q hq=>?_,Gk.trans G9⟩,(by show n - 1 < n;omega),?_⟩
  ·rcases List.mem_append.1 hq with hq|hq
   ·exact hps q hq
   ·rw [List.mem_singleton.1 hq];exact gp
  have hw:IntKind.i64.wrap ((n:Int) - 1)=((n - 1:Nat):Int):=by rw [zjz (by omega)];omega
  simp only [go_sem,jq,jj,jy,jv,jk,jx,hw,List.length_append,List.flatMap_append]
  repeat' first|exact rfl|exact trivial|assumption|decide|refine And.intro ?_ ?_
 have hn:n=0:=by have:=of_decide_eq_false hd;omega
 refine zc6 ?_
 refine Evs ?_
 refine znD 2 ps rfl rfl rfl rfl fun s h9 e9 R9 f9 le9 _=>?_
 refine Wk ?_
 have G9:=Gk.grow le9
 have hd9:=(zou R9 f9 Ck.ne).ok (by decide) fun x hx=>zDf (hps x (by rw [← e9];exact hx))
 exact ⟨⟨k1,s⟩,⟨rfl,⟨⟨a1,b1⟩,by rw [e9];omega,by rw [e9];exact hps⟩,⟨(by show I64 k1;unfold I64;omega),hd9⟩⟩,G9⟩
end Go.Proofs.YtdeflkhkfmjckaaGreat
