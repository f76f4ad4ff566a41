/- What functions of the given program compute, as contracts. -/
import Derived.Test.YtbkaaakphpbmiaaGreatXGBestPlan18
set_option linter.unusedVariables false
set_option linter.unusedSimpArgs false
set_option maxRecDepth 4000
open Nat renaming reduceAdd → jq, reduceMul → jj, reduceBEq → jy, reduceLeDiff → jv, reduceLT → jk, reduceEqDiff → jx
open Bool renaming or_eq_false_iff → jp, or_eq_true → jQ, and_eq_true → jJ
open Int renaming toNat_natCast → jW, natCast_nonneg → jY
open Go.Proofs.Tryz renaming prog → jV
namespace Go.Proofs.YtbkaaakphpbmiaaGreat
open Go Go.SL
set_option maxHeartbeats 1000000
def rtIn (c:PChart) (a b:Int):Bool:=zva c && decide (0≤a∧a < c.points.length) && decide (0≤b∧b < c.points.length)
def zx8 (c:PChart) (a b:Int):List (List Int):=if rtIn c a b=true then zxV c.segments b 8 [a] [] else []
theorem zx9 {c:PChart} {a b:Int} (h:rtIn c a b=false):zx8 c a b=[]:=by rw [zx8,if_neg (by rw [h];exact Bool.false_ne_true)]
theorem zya {g:List DSegment} {to:Int}:∀ {f:Nat} {pts r:List Int},∀ x ∈ zxV g to f pts r,x.length≤r.length+f
 | 0,_,_,x,hx=>by cases hx
 | f+1,pts,r,x,hx=>by
  unfold zxV at hx
  split at hx
  ·rw [List.mem_singleton.1 hx];omega
  ·obtain ⟨i,_,hx⟩:=List.mem_flatMap.1 hx
   unfold wkAt at hx
   split at hx
   ·have:=zya x hx
    rw [List.length_append,List.length_singleton] at this
    omega
   ·cases hx
theorem zyb {c:PChart} {a b:Int}:∀ x ∈ zx8 c a b,x.length≤8:=fun x hx=>by
 rw [zx8] at hx
 split at hx
 ·have:=zya x hx;simpa using this
 ·cases hx
def zyc (m:List Int→Int) (acc:Option (List Int)) (r:List Int):Option (List Int):=match acc with
 | none=>some r
 | some x=>if m r < m x then some r else some x
def zyd (c:PChart) (a b:Int):Option (List Int):=(zx8 c a b).foldl (zyc (zxn c)) none
theorem zye {m:List Int→Int} {l0:List (List Int)}:∀ {l:List (List Int)} {acc:Option (List Int)} {x:List Int},(∀ y,acc=some y→y ∈ l0)→(∀ y ∈ l,y ∈ l0)→l.foldl (zyc m) acc=some x→x ∈ l0
 | [],acc,x,h1,h2,h=>h1 x h
 | r :: l,acc,x,h1,h2,h=>by
  refine zye (l:=l) (acc:=zyc m acc r) (fun y hy=>?_) (fun y hy=>h2 y (List.mem_cons_of_mem _ hy)) h
  unfold zyc at hy
  split at hy
  ·cases hy;exact h2 _ (List.mem_cons_self ..)
  ·rename_i z
   split at hy
   ·cases hy;exact h2 _ (List.mem_cons_self ..)
   ·cases hy;exact h1 _ rfl
theorem zyf {c:PChart} {a b:Int} {x:List Int} (h:zyd c a b=some x):x.length≤8:=zyb x (zye (acc:=none) (fun y hy=>by cases hy) (fun y hy=>hy) h)
theorem zyg {a:Int}:([a]:List Int).Nodup:=by simp
theorem zZ3 (c:DChart) (a b:Int) (h:Hp) (hc:Enc.ok h c) (ha:I64 a):Ct jV 228 [c.v,.int .i64 a,.int .i64 b] h fun v h'=>∃ s:Sl (Sl Int),v=s.val∧s.l.map (·.l)=zx8 (Con.con c) a b∧s.Ok h':=by
 have hgm:=hc.1.max
 have hpl:(Con.con c).points=c.points.l:=zwZ c
 refine zdn (fun A W=>by simp) Tryz.func228 rfl rfl (by simp) fun W0=>?_
 repeat' first|refine Wa ?_|refine zhF (fun _=>zY8 c _ hc) ?_|refine zhF (fun _=>zYZ _ _ _ _) ?_|(simp only [go_sem,jq,jj,jy,jv,jk,jx];try rfl)|refine Wb ?_|fail
 rw [zjz (by omega)]
 refine zc9 rfl (fun hx=>?_) (fun hx=>?_)
 ·rw [zx9 (by
   rw [rtIn,hpl]
   simp only [jQ,Bool.not_eq_true',Bool.and_eq_false_iff,decide_eq_false_iff_not] at hx ⊢
   rcases hx with (hx|hx)|hx
   ·exact .inl (.inl hx)
   ·exact .inl (.inr (by omega))
   ·exact .inr (by omega))]
  refine Wk ?_
  exact ⟨⟨none,0,[]⟩,rfl,rfl,zmo⟩
 simp only [jp,Bool.not_eq_false',jJ,decide_eq_true_eq] at hx
 obtain ⟨⟨hC,ha0,ha1⟩,hb0,hb1⟩:=hx
 have hin:rtIn (Con.con c) a b=true:=by
  simp only [rtIn,hC,hpl,Bool.true_and,jJ,decide_eq_true_eq];omega
 rw [zx8,if_pos hin,zvJ]
 refine zc5 ?_
 refine Evs ?_
 first|refine zmR [0,0,2,0,2,1,0] rfl ?_|refine zmQ [0,0,2,0,2,1,0] rfl ?_|(refine zc3 ?_;first|refine zmR [0,0,2,0,2,1,0] rfl ?_|refine zmQ [0,0,2,0,2,1,0] rfl ?_)
 try simp only [go_sem,jq,jj,jy,jv,jk,jx]
 intro ad1 cap1 h1 P1
 have P1':Pub h 3 (Enc.size Int) ([a]:List Int).length (([a]:List Int).flatMap Enc.enc) ad1 cap1 h1:=P1
 try simp only [go_sem,jq,jj,jy,jv,jk,jx]
 intro ad2 cap2 h2 P2
 have P2':Pub h1 35 (Enc.size (Sl Int)) ([]:List (Sl Int)).length (([]:List (Sl Int)).flatMap Enc.enc) ad2 cap2 h2:=P2
 obtain ⟨R2,f2,k2⟩:=P2'.row
 have W2:WS 35 h2 (Sl.mk ad2 cap2 ([]:List (Sl Int))):=⟨R2,fun x hx=>by cases hx⟩
 have hd2:=P2'.drop (l:=([]:List (Sl Int)))
 have q1:(Sl.mk ad1 cap1 [a]).Ok h1:=Pub.sl (by decide) P1' (fun x hx=>by rw [List.mem_singleton.1 hx];exact ha)
 try simp only [go_sem,jq,jj,jy,jv,jk,jx]
 refine zli (zZ2 c hC b 8 (Sl.mk ad1 cap1 [a]) (Sl.mk none 0 []) (Sl.mk ad2 cap2 []) h2 (by rw [hd2];exact Enc.mono P1'.le hc) (by rw [hd2];exact q1) (by rw [hd2];exact zmo) W2 (by simp) zyg (fun x hx=>by rw [List.mem_singleton.1 hx];omega) rfl (Nat.zero_le _) (by show 0+10 ^ 8≤2000000000;decide)) rfl (fun k hk=>⟨R2.mem hk,.inl (zmx P1'.le (f2 k hk))⟩) ?_
 rintro v h4 kp ⟨s,rfl,hs,Ws,fs,les⟩
 refine Evs ?_
 refine Wk ?_
 exact ⟨s,rfl,by rw [hs];rfl,Ws.ok (by decide)⟩
theorem zyh (c:DChart) (a b:Int) (h:Hp) (hc:Enc.ok h c) (ha:I64 a):Ct jV 234 [c.v,.int .i64 a,.int .i64 b] h fun v h'=>∃ s:Sl (Sl Int),v=s.val∧s.l.map (·.l)=zx8 (Con.con c) a b∧s.Ok h':=by
 have hgm:=hc.1.max
 have hpl:(Con.con c).points=c.points.l:=zwZ c
 refine zdn (fun A W=>by simp) Tryz.func234 rfl rfl (by simp) fun W0=>?_
 repeat' first|refine Wa ?_|refine zhF (fun _=>zvh c _ hc) ?_|refine zhF (fun _=>zuo _ _ _) ?_|(simp only [go_sem,jq,jj,jy,jv,jk,jx];try rfl)|refine Wb ?_|fail
 refine zc9 rfl (fun hx=>?_) (fun hx=>?_)
 ·rw [zx9 (by
   rw [rtIn,hpl]
   simp only [jQ,Bool.not_eq_true',Bool.and_eq_false_iff,decide_eq_false_iff_not] at hx ⊢
   rcases hx with (hx|hx)|hx
   ·exact .inl (.inl hx)
   ·exact .inl (.inr (by omega))
   ·exact .inr (by omega))]
  refine Wk ?_
  exact ⟨⟨none,0,[]⟩,rfl,rfl,zmo⟩
 simp only [jp,Bool.not_eq_false',jJ,decide_eq_true_eq] at hx
 obtain ⟨⟨hC,ha0,ha1⟩,hb0,hb1⟩:=hx
 have hin:rtIn (Con.con c) a b=true:=by
  simp only [rtIn,hC,hpl,Bool.true_and,jJ,decide_eq_true_eq];omega
 rw [zx8,if_pos hin,zvJ]
 refine zc5 ?_
 refine Evs ?_
 refine zc3 ?_
 refine zc4 rfl ?_
 refine Evs ?_
 refine znD 1 ([]:List (Sl Int)) rfl rfl rfl rfl fun s0 h1 e0 R0 f0 l1 k1=>?_
 refine Evs ?_
 refine zmE 2 rfl rfl fun g hg hown=>?_
 have l1:h.le h1:=l1
 have hg:h1 g=none:=hg
 have f0:∀ g,s0.a=some ⟨g,0,none⟩→h g=none:=f0
 have hown:W0.own g:=hown
 refine Evs ?_
 have hbd:znC h1 s0 g=none:=by
  cases hh:znC h1 s0 g with
  | none=>rfl
  | some o=>have:=znY g o hh;rw [hg] at this;cases this
 have hle2:h1.le (h1.ins g (.cells #[s0.val] 280 (0,0))):=Hp.ins_le hg
 have hs0g:s0.a ≠ some ⟨g,0,none⟩:=fun e=>R0.mem e hg
 have W0':WB 280 35 (h1.ins g (.cells #[s0.val] 280 (0,0))) g s0 :=
  ⟨Hp.ins_same,R0.keep fun g' hg'=>Hp.ins_ne (fun e=>by subst e;exact hs0g hg'),hs0g,fun x hx=>by rw [e0] at hx;cases hx⟩
 have hb0':h.le (zof (h1.ins g (.cells #[s0.val] 280 (0,0))) g s0):=fun k o hk=>by
  rw [zoh W0'.2.1 (fun e=>by subst e;rw [l1 _ o hk] at hg;cases hg) (fun e=>by rw [f0 k e] at hk;cases hk)]
  exact hle2 k o (l1 k o hk)
 first|refine zmR [0,0,0,0,1] rfl ?_|refine zmQ [0,0,0,0,1] rfl ?_|(refine zc3 ?_;first|refine zmR [0,0,0,0,1] rfl ?_|refine zmQ [0,0,0,0,1] rfl ?_)
 refine Evs ?_
 refine zli (zx7 c hC b g 8 [] a (Sl.mk none 0 []) s0 _ (Enc.mono hb0' hc) zmo W0' zyg (fun x hx=>by rw [List.mem_singleton.1 hx];omega) rfl (Nat.zero_le _) (by rw [e0];show 0+10 ^ 8≤2000000000;decide)) rfl (fun k hk=>?_) ?_
 ·rcases hk with rfl|hk
  ·exact ⟨(by rw [Hp.ins_same];exact fun e=>(by cases e)),.inr hown⟩
  ·exact ⟨W0'.2.1.mem hk,.inl (f0 k hk)⟩
 rintro v h4 kp ⟨s,hs,Ws,fs,les⟩
 try simp only [go_sem,jq,jj,jy,jv,jk,jx]
 repeat' first|refine Wa ?_|(simp only [go_sem,jq,jj,jy,jv,jk,jx,Ws.lds];try rfl)|refine Wb ?_|fail
 exact ⟨s,rfl,by rw [hs,e0];rfl,Ws.2.1.ok (by decide) fun x hx=>Enc.mono zog (Ws.2.2.2 x hx)⟩
theorem zyi {m:List Int→Int} {l:List (Sl Int)} {k:Nat} (hk:k < l.length):((l.take (k+1)).map (·.l)).foldl (zyc m) none=zyc m (((l.take k).map (·.l)).foldl (zyc m) none) l[k].l:=by
 rw [List.take_succ_eq_append_getElem hk,List.map_append,List.foldl_append];rfl
set_option maxRecDepth 20000 in
theorem zZ4 (c:DChart) (a b:Int) (h:Hp) (hc:Enc.ok h c) (ha:I64 a):Ct jV 164 [c.v,.int .i64 a,.int .i64 b] h fun v h'=>∃ s:Sl Int,v=.tuple #[s.val,.bool (zyd (Con.con c) a b).isSome]∧s.l=(zyd (Con.con c) a b).getD []∧s.Ok h':=by
 refine zdn (fun A W=>by simp) Tryz.func164 rfl rfl (by simp) fun W0=>?_
 (first|refine zie rfl ?_|refine zc4 rfl ?_|(refine zc3 ?_;first|refine zie rfl ?_|refine zc4 rfl ?_));simp only [go_sem,jq,jj,jy,jv,jk,jx]
 (first|refine zie rfl ?_|refine zc4 rfl ?_|(refine zc3 ?_;first|refine zie rfl ?_|refine zc4 rfl ?_));simp only [go_sem,jq,jj,jy,jv,jk,jx]
 (first|refine zie rfl ?_|refine zc4 rfl ?_|(refine zc3 ?_;first|refine zie rfl ?_|refine zc4 rfl ?_));simp only [go_sem,jq,jj,jy,jv,jk,jx]
 refine znD 1 ([]:List Int) rfl rfl rfl rfl fun s0 h1 e0 R0 f0 l1 k1=>?_
 have l1:h.le h1:=l1
 have hc1:Enc.ok h1 c:=Enc.mono l1 hc
 have ok0:s0.Ok h1:=R0.ok (by decide) fun x hx=>by rw [e0] at hx;cases hx
 refine Wk ?_
 refine zkj (zZ3 c a b _ hc1 ha) rfl ?_
 rintro v h2 le2 ⟨r,rfl,er,okr⟩
 have hc2:Enc.ok h2 c:=Enc.mono le2 hc1
 have l2:h.le h2:=Hp.le_trans l1 le2
 have hl:=okr.max
 refine Wk ?_
 refine zl0 (ι:=Nat × Sl Int) (fun i=>⟨[(3,true,.c (.p 0 0)),(6,true,.c (.v (.slice none 0 0))),(7,true,.c (.v (.bool false))),(8,true,.c (.v i.2.val)),(9,true,.c (.v (.bool (decide (0 < i.1))))),(16,true,.c (.v r.val)),(17,true,.c (.v (.int .i64 r.l.length))),(18,true,.c (.v (.int .i64 i.1)))],[(0,.box 57 [.v c.points.val,.v c.segments.val])],h2,1⟩) (fun i=>i.1≤r.l.length∧i.2.Ok h2∧((r.l.take i.1).map (·.l)).foldl (zyc (zxn (Con.con c))) none=if 0 < i.1 then some i.2.l else none) (fun i=>r.l.length - i.1) (0,s0) ⟨Nat.zero_le _,ok0.mono le2,rfl⟩ [0] ?_ ?_
 ·refine Evs ?_
  exact Gk
 rintro ⟨k,q⟩ ⟨hk,okq,hF⟩
 simp only at hk okq hF
 refine Wk ?_
 refine zc9 rfl (fun hd=>?_) (fun hd=>?_)
 ·have hlt:=zjH hd
  have okk:=okr.el hlt
  have hnx:=zyi (m:=zxn (Con.con c)) hlt
  rw [hF] at hnx
  repeat' first|refine Wa ?_|(simp only [go_sem,jq,jj,jy,jv,jk,jx,zku okr hlt,okr.some hlt,hlt,jW,jY];try rfl)|refine Wb ?_|fail
  refine znv rfl ?_
  refine U_t [0,1,2,3,4,6,7] rfl ?_
  simp only [go_sem,jq,jj,jy,jv,jk,jx,zku okr hlt,okr.some hlt,hlt,jW,jY]
  refine U_1 5 0 [6] rfl rfl ?_
  simp only [go_sem,jq,jj,jy,jv,jk,jx,zku okr hlt,okr.some hlt,hlt,jW,jY]
  refine zhF (fun _=>zZT c r.l[k] _ hc2 okk) ?_
  simp only [go_sem,jq,jj,jy,jv,jk,jx,zku okr hlt,okr.some hlt,hlt,jW,jY]
  refine U_1 8 0 [] rfl rfl ?_
  simp only [go_sem,jq,jj,jy,jv,jk,jx,zku okr hlt,okr.some hlt,hlt,jW,jY]
  refine zhF (fun _=>zZT c q _ hc2 okq) ?_
  simp only [go_sem,jq,jj,jy,jv,jk,jx,zku okr hlt,okr.some hlt,hlt,jW,jY]
  refine U_t [9,10] rfl ?_
  simp only [go_sem,jq,jj,jy,jv,jk,jx,zku okr hlt,okr.some hlt,hlt,jW,jY]
  refine U_d ?_
  refine Wk ?_
  refine zc9 rfl (fun hz=>?_) (fun hz=>?_)
  ·refine Wk ?_
   refine ⟨(k+1,r.l[k]),[0],⟨hlt,okk,?_⟩,by simp only;omega,?_⟩
   ·rw [hnx,if_pos (Nat.succ_pos k)]
    by_cases h0:0 < k
    ·rw [if_pos h0]
     rw [decide_eq_true h0] at hz
     have hz:zxn (Con.con c) r.l[k].l < zxn (Con.con c) q.l:=of_decide_eq_true (by rw [Bool.not_true,Bool.false_or] at hz;exact hz)
     show (if _ then _ else _)=_
     rw [if_pos hz]
    ·rw [if_neg h0];rfl
   refine Evs ?_
   try rw [decide_eq_true (Nat.succ_pos k)]
   exact Gi (zjA hlt (by omega))
  ·have h0:0 < k:=by
    rcases Nat.eq_zero_or_pos k with e|e
    ·rw [decide_eq_false (show ¬ 0 < k by omega)] at hz;cases hz
    ·exact e
   refine Wk ?_
   refine ⟨(k+1,q),[0],⟨hlt,okq,?_⟩,by simp only;omega,?_⟩
   ·rw [hnx,if_pos (Nat.succ_pos k),if_pos h0]
    rw [decide_eq_true h0] at hz
    have hz:¬ zxn (Con.con c) r.l[k].l < zxn (Con.con c) q.l:=of_decide_eq_false (by rw [Bool.not_true,Bool.false_or] at hz;exact hz)
    show (if _ then _ else _)=_
    rw [if_neg hz]
   refine Evs ?_
   try rw [decide_eq_true (Nat.succ_pos k)]
   try rw [decide_eq_true h0]
   exact Gi (zjA hlt (by omega))
 ·have hge:=zjI hd
  obtain rfl:k=r.l.length:=by omega
  rw [List.take_length,er] at hF
  have hF:zyd (Con.con c) a b=_:=hF
  refine Wk ?_
  refine zc9 rfl (fun hz=>?_) (fun hz=>?_)
  ·refine Wk ?_
   rw [hF,if_neg (by simpa using hz)]
   exact ⟨⟨none,0,[]⟩,rfl,rfl,zmo⟩
  ·refine Wk ?_
   rw [hF,if_pos (by simpa using hz)]
   exact ⟨q,rfl,rfl,okq⟩
theorem zyj (c:DChart) (a b:Int) (h:Hp) (hc:Enc.ok h c) (ha:I64 a):Ct jV 168 [c.v,.int .i64 a,.int .i64 b] h fun v h'=>∃ s:Sl Int,v=.tuple #[s.val,.bool (zyd (Con.con c) a b).isSome]∧s.l=(zyd (Con.con c) a b).getD []∧s.Ok h':=by
 refine zdn (fun A W=>by simp) Tryz.func168 rfl rfl (by simp) fun W0=>?_
 refine Wk ?_
 refine zkj (zyh c a b _ hc ha) rfl ?_
 rintro v h2 le2 ⟨r,rfl,er,okr⟩
 have hc2:Enc.ok h2 c:=Enc.mono le2 hc
 have hl:=okr.max
 refine Wk ?_
 refine zc9 rfl (fun hz=>?_) (fun hz=>?_)
 ·have hz:r.l=[]:=List.length_eq_zero_iff.1 (by have:=eq_of_beq hz;omega)
  have hF:zyd (Con.con c) a b=none:=by rw [zyd,← er,hz];rfl
  refine Wk ?_
  rw [hF]
  exact ⟨⟨none,0,[]⟩,rfl,rfl,zmo⟩
 have h0:0 < r.l.length:=by have:=ne_of_beq_false hz;omega
 have h0i:(0:Int) < r.l.length:=by omega
 have hat0:=zku okr h0
 simp only [go_sem,Nat.zero_mul] at hat0
 repeat' first|refine Wa ?_|(simp only [go_sem,jq,jj,jy,jv,jk,jx,hat0,okr.some h0,h0,h0i,Int.toNat_zero,Nat.zero_mul,Int.le_refl,implies_true,true_and,and_true];try rfl)|refine Wb ?_|fail
 refine zl0 (ι:=Nat × Sl Int) (fun i=>⟨[(3,true,.c (.p 0 0)),(6,true,.c (.v (.slice none 0 0))),(7,true,.c (.v (.bool false))),(9,true,.c (.v i.2.val)),(22,true,.c (.v r.val)),(23,true,.c (.v (.int .i64 r.l.length))),(24,true,.c (.v (.int .i64 i.1)))],[(0,.box 57 [.v c.points.val,.v c.segments.val])],h2,1⟩) (fun i=>i.1≤r.l.length∧i.2.Ok h2∧((i.1=0∧i.2=r.l[0])∨((r.l.take i.1).map (·.l)).foldl (zyc (zxn (Con.con c))) none=some i.2.l)) (fun i=>r.l.length - i.1) (0,r.l[0]) ⟨Nat.zero_le _,okr.el h0,.inl ⟨rfl,rfl⟩⟩ [0] ?_ ?_
 ·refine Evs ?_
  exact Gk
 rintro ⟨k,q⟩ ⟨hk,okq,hF⟩
 simp only at hk okq hF
 refine Wk ?_
 refine zc9 rfl (fun hd=>?_) (fun hd=>?_)
 ·have hlt:=zjH hd
  have okk:=okr.el hlt
  have hnx:=zyi (m:=zxn (Con.con c)) hlt
  have hnx2:((r.l.take (k+1)).map (·.l)).foldl (zyc (zxn (Con.con c))) none=if zxn (Con.con c) r.l[k].l < zxn (Con.con c) q.l then some r.l[k].l else some q.l:=by
   rw [hnx]
   rcases hF with ⟨rfl,rfl⟩|hF
   ·rw [if_neg (Int.lt_irrefl _)];rfl
   ·rw [hF];rfl
  repeat' first|refine Wa ?_|(simp only [go_sem,jq,jj,jy,jv,jk,jx,zku okr hlt,okr.some hlt,hlt,jW,jY];try rfl)|refine Wb ?_|fail
  refine znv rfl ?_
  refine U_t [0,1,3,4] rfl ?_
  simp only [go_sem,jq,jj,jy,jv,jk,jx,zku okr hlt,okr.some hlt,hlt,jW,jY]
  refine U_1 2 0 [3] rfl rfl ?_
  simp only [go_sem,jq,jj,jy,jv,jk,jx,zku okr hlt,okr.some hlt,hlt,jW,jY]
  refine zhF (fun _=>zxq c r.l[k] _ hc2 okk) ?_
  simp only [go_sem,jq,jj,jy,jv,jk,jx,zku okr hlt,okr.some hlt,hlt,jW,jY]
  refine U_1 5 0 [] rfl rfl ?_
  simp only [go_sem,jq,jj,jy,jv,jk,jx,zku okr hlt,okr.some hlt,hlt,jW,jY]
  refine zhF (fun _=>zxq c q _ hc2 okq) ?_
  simp only [go_sem,jq,jj,jy,jv,jk,jx,zku okr hlt,okr.some hlt,hlt,jW,jY]
  refine U_t [6] rfl ?_
  simp only [go_sem,jq,jj,jy,jv,jk,jx,zku okr hlt,okr.some hlt,hlt,jW,jY]
  refine U_d ?_
  refine Wk ?_
  refine zc9 rfl (fun hz=>?_) (fun hz=>?_)
  ·have hz:=of_decide_eq_true hz
   refine Wk ?_
   refine ⟨(k+1,r.l[k]),[0],⟨hlt,okk,.inr (by rw [hnx2,if_pos hz])⟩,by simp only;omega,?_⟩
   refine Evs ?_
   exact Gi (zjA hlt (by omega))
  ·have hz:=of_decide_eq_false hz
   refine Wk ?_
   refine ⟨(k+1,q),[0],⟨hlt,okq,.inr (by rw [hnx2,if_neg hz])⟩,by simp only;omega,?_⟩
   refine Evs ?_
   exact Gi (zjA hlt (by omega))
 ·have hge:=zjI hd
  obtain rfl:k=r.l.length:=by omega
  have hF:zyd (Con.con c) a b=some q.l:=by
   rcases hF with ⟨e,_⟩|hF
   ·omega
   ·rw [List.take_length,er] at hF;exact hF
  refine Wk ?_
  rw [hF]
  exact ⟨q,rfl,rfl,okq⟩
end Go.Proofs.YtbkaaakphpbmiaaGreat
