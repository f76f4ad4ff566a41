/- What functions of the given program compute, as contracts. -/
import Derived.Test.YtbkaaakphpbmiaaGreatSGBestPlanx7
import Derived.Test.YtbkaaakphpbmiaaGreatXGBestPlan8
set_option linter.unusedVariables false
set_option linter.unusedSimpArgs false
set_option maxRecDepth 4000
open Nat renaming reduceAdd → jq, reduceMul → jj, reduceBEq → jy, reduceLeDiff → jv, reduceLT → jk, reduceEqDiff → jx
open Bool renaming or_eq_false_iff → jp, or_eq_true → jQ, and_eq_true → jJ
open Int renaming toNat_natCast → jW, natCast_nonneg → jY
open Go.Proofs.Tryz renaming prog → jV
namespace Go.Proofs.YtbkaaakphpbmiaaGreat
open Go Go.SL
set_option maxHeartbeats 1000000
theorem w64 (n:Int):IntKind.i64.wrap n=(n+9223372036854775808) % 18446744073709551616 - 9223372036854775808:=by rw [IntKind.wrap_i64]
def zJx (l:List POption):Int:=l.foldl (fun t o=>IntKind.i64.wrap (t+o.cost)) 0
theorem zJy (s:Sl DOption):zJx (Con.con s)=s.l.foldl (fun t o=>IntKind.i64.wrap (t+o.cost)) 0:=by rw [zkq,zJx,List.foldl_map];rfl
theorem zuz {α β:Type} (f:β→α→β) (b:β) {l:List α} {k:Nat} (hk:k < l.length):(l.take (k+1)).foldl f b=f ((l.take k).foldl f b) l[k]:=by
 rw [List.take_succ_eq_append_getElem hk,List.foldl_append];rfl
theorem zJz (a:Sl DOption) (h:Hp) (ha:a.Ok h):Ct jV 132 [a.val] h fun v h'=>v=.int .i64 (zJx (Con.con a))∧h'=h:=by
 have hl:=ha.max
 rw [zJy]
 refine zdn (fun A W=>by simp) Tryz.func132 rfl rfl (by simp) fun W0=>?_
 refine Wk ?_
 refine zde (ι:=Nat) (fun k=>⟨[(3,true,.c (.v (.int .i64 ((a.l.take k).foldl (fun t o=>IntKind.i64.wrap (t+o.cost)) 0)))),(6,true,.c (.v a.val)),(7,true,.c (.v (.int .i64 a.l.length))),(8,true,.c (.v (.int .i64 k)))],[],h,0⟩) (fun k=>k≤a.l.length) (fun k=>a.l.length - k) 0 (Nat.zero_le _) ?_ ?_
 ·refine Evs ?_
  exact ⟨rfl,rfl⟩
 intro k hk
 refine Wk ?_
 refine zc9 rfl (fun hd=>?_) (fun hd=>?_)
 ·have hlt:=zjH hd
  repeat' first|refine Wa ?_|(simp only [go_sem,jq,jj,jy,jv,jk,jx,zkC ha hlt,ha.some hlt,hlt,jW];try rfl)|refine Wb ?_|fail
  exact ⟨k+1,hlt,by omega,zjB (by rw [zuz _ _ hlt]),zjB (zjA hlt (by omega))⟩
 ·have hge:=zjI hd
  refine Wk ?_
  rw [List.take_of_length_le hge]
def zuA (l:List Int):Nat→Int
 | 0=>-1
 | k+1=>if zuA l k < 0∨l.getD k 0 < l.getD (zuA l k).toNat 0 then k else zuA l k
theorem zuB (l:List Int):∀ k,(k=0∧zuA l k=-1)∨(0≤zuA l k∧zuA l k < k)
 | 0=>.inl ⟨rfl,rfl⟩
 | k+1=>by
  right
  simp only [zuA]
  rcases zuB l k with ⟨rfl,h⟩|h
  ·rw [h];simp
  ·split <;> omega
def zuC (l:List POption):Int:=zuA (l.map (·.cost)) l.length
theorem zuD (s:Sl DOption):zuC (Con.con s)=zuA (s.l.map (·.cost)) s.l.length:=by rw [zkq,zuC,List.map_map,List.length_map];rfl
theorem zuE {l:List DOption} {k:Nat} (hk:k < l.length):(l.map (·.cost)).getD k 0=l[k].cost:=by simp [List.getD_eq_getElem?_getD,hk]
theorem zY0 (a:Sl DOption) (h:Hp) (ha:a.Ok h):Ct jV 182 [a.val] h fun v h'=>v=.int .i64 (zuC (Con.con a))∧h'=h:=by
 have hl:=ha.max
 rw [zuD]
 refine zdn (fun A W=>by simp) Tryz.func182 rfl rfl (by simp) fun W0=>?_
 refine Wk ?_
 refine zde (ι:=Nat) (fun k=>⟨[(0,true,.c (.v a.val)),(3,true,.c (.v (.int .i64 (zuA (a.l.map (·.cost)) k)))),(6,true,.c (.v a.val)),(7,true,.c (.v (.int .i64 a.l.length))),(8,true,.c (.v (.int .i64 k)))],[],h,0⟩) (fun k=>k≤a.l.length) (fun k=>a.l.length - k) 0 (Nat.zero_le _) ?_ ?_
 ·refine Evs ?_
  exact ⟨rfl,rfl⟩
 intro k hk
 refine Wk ?_
 refine zc9 rfl (fun hd=>?_) (fun hd=>?_)
 ·have hlt:=zjH hd
  repeat' first|refine Wa ?_|(simp only [go_sem,jq,jj,jy,jv,jk,jx,zkC ha hlt,ha.some hlt,hlt,jW];try rfl)|refine Wb ?_|fail
  have hstep:zuA (a.l.map (·.cost)) (k+1)=if zuA (a.l.map (·.cost)) k < 0∨(a.l.map (·.cost)).getD k 0 < (a.l.map (·.cost)).getD (zuA (a.l.map (·.cost)) k).toNat 0 then (k:Int) else zuA (a.l.map (·.cost)) k:=rfl
  rcases zuB (a.l.map (·.cost)) k with ⟨h0,hB⟩|⟨h0,hB⟩
  ·rw [hB] at hstep ⊢
   refine zi8 rfl (by kernel_rfl) ?_
   simp only [go_sem,jq,jj,jy,jv,jk,jx,Int.reduceNeg,Int.reduceLT,decide_true,Bool.not_true,Bool.false_eq_true,reduceCtorEq,false_implies,Bool.true_or]
   refine zc9 rfl (fun hq=>?_) (fun hq=>?_)
   ·refine Wk ?_
    exact ⟨k+1,hlt,by omega,zjB (by rw [hstep];simp),zjB (zjA hlt (by omega))⟩
   ·cases hq
  ·have hb:(zuA (a.l.map (·.cost)) k).toNat < a.l.length:=by omega
   have hnn:decide (zuA (a.l.map (·.cost)) k < 0)=false:=decide_eq_false (by omega)
   rw [zuE hlt,zuE hb] at hstep
   generalize zuA (a.l.map (·.cost)) k=B at *
   refine zi8 rfl (by kernel_rfl) ?_
   simp only [go_sem,jq,jj,jy,jv,jk,jx,hnn,h0,hb,zlP ha hb,ha.some hb,Bool.not_false,Bool.false_or]
   refine ⟨fun _=>by omega,?_⟩
   refine zc9 rfl (fun hq=>?_) (fun hq=>?_)
   ·refine Wk ?_
    exact ⟨k+1,hlt,by omega,zjB (by rw [hstep,if_pos (((jQ _ _).mp hq).elim (fun e=>.inl (of_decide_eq_true e)) (fun e=>.inr (of_decide_eq_true e)))]),zjB (zjA hlt (by omega))⟩
   ·refine Wk ?_
    exact ⟨k+1,hlt,by omega,zjB (by rw [hstep,if_neg (fun e=>e.elim (by omega) (of_decide_eq_false (Bool.or_eq_false_iff.1 hq).2))]),zjB (zjA hlt (by omega))⟩
 ·have hge:=zjI hd
  refine Wk ?_
  rw [Nat.le_antisymm hk hge]
def In (n lo hi:Int):Bool:=decide (lo≤n) && decide (n≤hi)
def zuG (n:Int):Bool:=In n 4 2880 && (Int.tmod n 4 == 0)
theorem zuH (n:Int) (h:Hp):Ct jV 290 [.int .i64 n] h fun v h'=>v=.bool (zuG n)∧h'=h:=by
 refine zdn (fun A W=>by simp) Tryz.func290 rfl rfl (by simp) fun W0=>?_
 repeat' first|refine Wa ?_|refine zhF (fun _=>zum _ _ _ _) ?_|(simp only [go_sem,jq,jj,jy,jv,jk,jx];try rfl)|refine Wb ?_|fail
 refine ⟨fun _ _=>by decide,?_⟩
 exact Wk0
def zuI (p:DPart):Bool:=In p.amp 0 1000 && zuG p.period && In p.phase 0 (p.period - 1)
theorem zY1 (p:DPart) (h:Hp) (hp:Enc.ok h p):Ct jV 276 [p.v] h fun v h'=>v=.bool (zuI p)∧h'=h:=by
 have hw:=w64 (p.period - 1)
 refine zdn (fun A W=>by simp) Tryz.func276 rfl rfl (by simp) fun W0=>?_
 repeat' first|refine Wa ?_|refine zhF (fun _=>zYZ _ _ _ _) ?_|(simp only [go_sem,jq,jj,jy,jv,jk,jx];try rfl)|refine Wb ?_|fail
 refine ⟨fun _ _ _ _=>by decide,?_⟩
 repeat' first|refine Wa ?_|refine zhF (fun _=>zYZ _ _ _ _) ?_|(simp only [go_sem,jq,jj,jy,jv,jk,jx];try rfl)|refine Wb ?_|fail
 congr 1;rw [Bool.eq_iff_iff];simp only [zuI,zuG,In,jJ,jQ,Bool.not_eq_true',decide_eq_true_eq,decide_eq_false_iff_not,beq_iff_eq,and_assoc]
 rw [hw]
 constructor <;> intro h <;> omega
theorem zuJ (p:DPart) (h:Hp) (hp:Enc.ok h p):Ct jV 266 [p.v] h fun v h'=>v=.bool (zuI p)∧h'=h:=by
 have hw:=w64 (p.period - 1)
 refine zdn (fun A W=>by simp) Tryz.func266 rfl rfl (by simp) fun W0=>?_
 repeat' first|refine Wa ?_|refine zhF (fun _=>zum _ _ _ _) ?_|refine zhF (fun _=>zuH _ _) ?_|(simp only [go_sem,jq,jj,jy,jv,jk,jx];try rfl)|refine Wb ?_|fail
 congr 1;rw [Bool.eq_iff_iff];simp only [zuI,zuG,In,jJ,jQ,Bool.not_eq_true',decide_eq_true_eq,decide_eq_false_iff_not,beq_iff_eq,and_assoc]
 rw [hw]
 constructor <;> intro h <;> omega
def zuK (s:DSurge):Bool:=In s.src 0 2880 && In s.low (-500) 500 && In s.high s.low 500
theorem zY2 (p:DSurge) (h:Hp):Ct jV 239 [p.v] h fun v h'=>v=.bool (zuK p)∧h'=h:=by
 refine zdn (fun A W=>by simp) Tryz.func239 rfl rfl (by simp) fun W0=>?_
 repeat' first|refine Wa ?_|refine zhF (fun _=>zYZ _ _ _ _) ?_|(simp only [go_sem,jq,jj,jy,jv,jk,jx];try rfl)|refine Wb ?_|fail
theorem zuL (p:DSurge) (h:Hp):Ct jV 221 [p.v] h fun v h'=>v=.bool (zuK p)∧h'=h:=by
 refine zdn (fun A W=>by simp) Tryz.func221 rfl rfl (by simp) fun W0=>?_
 repeat' first|refine Wa ?_|refine zhF (fun _=>zun _ _) ?_|(simp only [go_sem,jq,jj,jy,jv,jk,jx];try rfl)|refine Wb ?_|fail
 congr 1;rw [Bool.eq_iff_iff];simp only [zuK,In,jJ,jQ,Bool.not_eq_true',decide_eq_true_eq,decide_eq_false_iff_not,beq_iff_eq,and_assoc]
 omega
def zuM (s:ByteArray) (k:Nat):Bool:=!(decide (97≤zms s k) && decide (zms s k≤122)) && (decide ((k:Int)=0) || decide (zms s k < 48) || decide (57 < zms s k))
def zuN (s:ByteArray):Bool:=decide (∀ i,i < s.size→zuM s i=false) && In s.size 1 8
theorem zY3 (s:ByteArray) (h:Hp) (hs:zks s):Ct jV 240 [.string s] h fun v h'=>v=.bool (zuN s)∧h'=h:=by
 have hmax:s.size≤9223372036854775807:=hs
 refine zdn (fun A W=>by simp) Tryz.func240 rfl rfl (by simp) fun W0=>?_
 refine Wk ?_
 refine zde (ι:=Nat) (fun k=>⟨[(0,true,.c (.v (.string s))),(3,true,.c (.v (.int .i64 k)))],[],h,0⟩) (fun k=>k≤s.size∧∀ i,i < k→zuM s i=false) (fun k=>s.size - k) 0 ⟨Nat.zero_le _,fun i hi=>absurd hi (Nat.not_lt_zero _)⟩ ?_ ?_
 ·refine Evs ?_
  exact Gk
 intro k hk
 refine Wk ?_
 refine zc9 rfl (fun hd=>?_) (fun hd=>?_)
 ·have hlt:=zjH hd
  repeat' first|refine Wa ?_|(simp only [go_sem,jq,jj,jy,jv,jk,jx,hlt,jW];try rfl)|refine Wb ?_|fail
  refine zc9 rfl (fun hq=>?_) (fun hq=>?_)
  ·refine Wk ?_
   have:zuN s=false:=by
    rw [zuN,decide_eq_false (fun e=>?_),Bool.false_and]
    have:=e k hlt
    rw [show zuM s k=true from hq] at this
    cases this
   rw [this]
  ·refine Wk ?_
   refine ⟨k+1,⟨hlt,fun i hi=>?_⟩,by omega,zjB (zjA hlt (by omega))⟩
   rcases Nat.lt_succ_iff_lt_or_eq.1 hi with hi|rfl
   ·exact hk.2 i hi
   ·exact hq
 ·have hge:=zjI hd
  repeat' first|refine Wa ?_|refine zhF (fun _=>zYZ _ _ _ _) ?_|(simp only [go_sem,jq,jj,jy,jv,jk,jx];try rfl)|refine Wb ?_|fail
  have:decide (∀ i,i < s.size→zuM s i=false)=true:=decide_eq_true (fun i hi=>hk.2 i (by omega))
  rw [zuN,this,Bool.true_and,In]
theorem zuO (s:ByteArray) (h:Hp) (hs:zks s):Ct jV 253 [.string s] h fun v h'=>v=.bool (zuN s)∧h'=h:=by
 have hmax:s.size≤9223372036854775807:=hs
 refine zdn (fun A W=>by simp) Tryz.func253 rfl rfl (by simp) fun W0=>?_
 repeat' first|refine Wa ?_|refine zhF (fun _=>zum _ _ _ _) ?_|(simp only [go_sem,jq,jj,jy,jv,jk,jx];try rfl)|refine Wb ?_|fail
 refine zc9 rfl (fun hc=>?_) (fun hc=>?_)
 ·refine Wk ?_
  rw [Bool.not_eq_true'] at hc
  rw [zuN,In,hc,Bool.and_false]
 rw [Bool.not_eq_false'] at hc
 refine Wk ?_
 refine zde (ι:=Nat) (fun k=>⟨[(0,true,.c (.v (.string s))),(3,true,.c (.v (.int .i64 k)))],[],h,0⟩) (fun k=>k≤s.size∧∀ i,i < k→zuM s i=false) (fun k=>s.size - k) 0 ⟨Nat.zero_le _,fun i hi=>absurd hi (Nat.not_lt_zero _)⟩ ?_ ?_
 ·refine Evs ?_
  exact Gk
 intro k hk
 refine Wk ?_
 refine zc9 rfl (fun hd=>?_) (fun hd=>?_)
 ·have hlt:=zjH hd
  repeat' first|refine Wa ?_|(simp only [go_sem,jq,jj,jy,jv,jk,jx,hlt,jW];try rfl)|refine Wb ?_|fail
  refine zc9 rfl (fun hq=>?_) (fun hq=>?_)
  ·refine Wk ?_
   have:zuN s=false:=by
    rw [zuN,decide_eq_false (fun e=>?_),Bool.false_and]
    have:=e k hlt
    rw [show zuM s k=true from hq] at this
    cases this
   rw [this]
  ·refine Wk ?_
   refine ⟨k+1,⟨hlt,fun i hi=>?_⟩,by omega,zjB (zjA hlt (by omega))⟩
   rcases Nat.lt_succ_iff_lt_or_eq.1 hi with hi|rfl
   ·exact hk.2 i hi
   ·exact hq
 ·have hge:=zjI hd
  refine Wk ?_
  have:decide (∀ i,i < s.size→zuM s i=false)=true:=decide_eq_true (fun i hi=>hk.2 i (by omega))
  rw [zuN,this,Bool.true_and,In,hc]
def zuP {α:Type} (p:α→Bool) (l:List α):Int:=match l.findIdx? p with|some i=>i|none=>-1
theorem zuQ {α:Type} {p:α→Bool} {l:List α} {k:Nat} (hk:k < l.length) (h:p l[k]=true) (hp:∀ i (hi:i < l.length),i < k→p l[i]=false):zuP p l=k:=by
 have:l.findIdx? p=some k:=by
  rw [List.findIdx?_eq_some_iff_getElem]
  exact ⟨hk,h,fun j hj=>by rw [hp j (by omega) hj];exact Bool.false_ne_true⟩
 rw [zuP,this]
theorem zuR {α:Type} {p:α→Bool} {l:List α} (hp:∀ i (hi:i < l.length),p l[i]=false):zuP p l=-1:=by
 have:l.findIdx? p=none:=by
  rw [List.findIdx?_eq_none_iff]
  intro x hx
  obtain ⟨i,hi,rfl⟩:=List.getElem_of_mem hx
  exact hp i hi
 rw [zuP,this]
def zuS (t:PTide):Bool:=In t.mean (-1000) 1000 && decide (t.parts.length≤4) && t.parts.all zuI
theorem zuT (s:Sl DPart):Con.con s=s.l:=List.map_id _
theorem zuU {α:Type} {p:α→Bool} {l:List α} {k:Nat} (hk:k < l.length) (h:p l[k]=false):l.all p=false:=List.all_eq_false.2 ⟨l[k],List.getElem_mem hk,by rw [h];exact Bool.false_ne_true⟩
theorem zuV {α:Type} {p:α→Bool} {l:List α} {k:Nat} (hk:k < l.length) (hp:(l.take k).all p=true) (h:p l[k]=true):(l.take (k+1)).all p=true:=by
 rw [List.take_succ_eq_append_getElem hk,List.all_append,hp];simp [h]
theorem zY4 (t:DTide) (h:Hp) (ht:Enc.ok h t):Ct jV 238 [t.v] h fun v h'=>v=.bool (zuS (Con.con t))∧h'=h:=by
 have hp:=ht.2
 have hl:=hp.max
 rw [zuS,show (Con.con t).mean=t.mean from rfl,show (Con.con t).parts=t.parts.l from zuT _]
 refine zdn (fun A W=>by simp) Tryz.func238 rfl rfl (by simp) fun W0=>?_
 repeat' first|refine Wa ?_|refine zhF (fun _=>zYZ _ _ _ _) ?_|(simp only [go_sem,jq,jj,jy,jv,jk,jx];try rfl)|refine Wb ?_|fail
 refine zc9 rfl (fun hc=>?_) (fun hc=>?_)
 ·refine Wk ?_
  congr 1
  rw [jQ] at hc
  rcases hc with hc|hc
  ·rw [Bool.not_eq_true'] at hc
   rw [In,hc];rfl
  ·rw [decide_eq_false (by have:=of_decide_eq_true hc;omega),Bool.and_false,Bool.false_and]
 obtain ⟨hc1,hc2⟩:=Bool.or_eq_false_iff.1 hc
 rw [Bool.not_eq_false'] at hc1
 have hc2:=of_decide_eq_false hc2
 refine Wk ?_
 refine zde (ι:=Nat) (fun k=>⟨[(16,true,.c (.v t.parts.val)),(17,true,.c (.v (.int .i64 t.parts.l.length))),(18,true,.c (.v (.int .i64 k)))],[],h,0⟩) (fun k=>k≤t.parts.l.length∧(t.parts.l.take k).all zuI=true) (fun k=>t.parts.l.length - k) 0 ⟨Nat.zero_le _,rfl⟩ ?_ ?_
 ·refine Evs ?_
  exact Gk
 intro k hk
 refine Wk ?_
 refine zc9 rfl (fun hd=>?_) (fun hd=>?_)
 ·have hlt:=zjH hd
  repeat' first|refine Wa ?_|refine zhF (fun _=>zY1 _ _ (hp.el hlt)) ?_|(simp only [go_sem,jq,jj,jy,jv,jk,jx,zkH hp hlt,hp.some hlt,hlt,jW];try rfl)|refine Wb ?_|fail
  refine zc9 rfl (fun hq=>?_) (fun hq=>?_)
  ·rw [Bool.not_eq_true'] at hq
   refine Wk ?_
   rw [zuU hlt hq,Bool.and_false]
  ·rw [Bool.not_eq_false'] at hq
   refine Wk ?_
   exact ⟨k+1,⟨hlt,zuV hlt hk.2 hq⟩,by omega,zjB (zjA hlt (by omega))⟩
 ·have hge:=zjI hd
  refine Wk ?_
  have:=hk.2
  rw [List.take_of_length_le hge] at this
  rw [this,In,hc1,decide_eq_true (show t.parts.l.length≤4 by omega)];rfl
theorem zuW (t:DTide) (h:Hp) (ht:Enc.ok h t):Ct jV 220 [t.v] h fun v h'=>v=.bool (zuS (Con.con t))∧h'=h:=by
 have hp:=ht.2
 have hl:=hp.max
 rw [zuS,show (Con.con t).mean=t.mean from rfl,show (Con.con t).parts=t.parts.l from zuT _]
 refine zdn (fun A W=>by simp) Tryz.func220 rfl rfl (by simp) fun W0=>?_
 repeat' first|refine Wa ?_|refine zhF (fun _=>zum _ _ _ _) ?_|(simp only [go_sem,jq,jj,jy,jv,jk,jx];try rfl)|refine Wb ?_|fail
 refine zc9 rfl (fun hc=>?_) (fun hc=>?_)
 ·refine Wk ?_
  congr 1
  rw [jQ] at hc
  rcases hc with hc|hc
  ·rw [Bool.not_eq_true'] at hc
   rw [In,hc];rfl
  ·rw [decide_eq_false (by have:=of_decide_eq_true hc;omega),Bool.and_false,Bool.false_and]
 obtain ⟨hc1,hc2⟩:=Bool.or_eq_false_iff.1 hc
 rw [Bool.not_eq_false'] at hc1
 have hc2:=of_decide_eq_false hc2
 refine Wk ?_
 refine zde (ι:=Nat) (fun k=>⟨[(16,true,.c (.v t.parts.val)),(17,true,.c (.v (.int .i64 t.parts.l.length))),(18,true,.c (.v (.int .i64 k)))],[],h,0⟩) (fun k=>k≤t.parts.l.length∧(t.parts.l.take k).all zuI=true) (fun k=>t.parts.l.length - k) 0 ⟨Nat.zero_le _,rfl⟩ ?_ ?_
 ·refine Evs ?_
  exact Gk
 intro k hk
 refine Wk ?_
 refine zc9 rfl (fun hd=>?_) (fun hd=>?_)
 ·have hlt:=zjH hd
  repeat' first|refine Wa ?_|refine zhF (fun _=>zuJ _ _ (hp.el hlt)) ?_|(simp only [go_sem,jq,jj,jy,jv,jk,jx,zkH hp hlt,hp.some hlt,hlt,jW];try rfl)|refine Wb ?_|fail
  refine zc9 rfl (fun hq=>?_) (fun hq=>?_)
  ·rw [Bool.not_eq_true'] at hq
   refine Wk ?_
   rw [zuU hlt hq,Bool.and_false]
  ·rw [Bool.not_eq_false'] at hq
   refine Wk ?_
   exact ⟨k+1,⟨hlt,zuV hlt hk.2 hq⟩,by omega,zjB (zjA hlt (by omega))⟩
 ·have hge:=zjI hd
  refine Wk ?_
  have:=hk.2
  rw [List.take_of_length_le hge] at this
  rw [this,In,hc1,decide_eq_true (show t.parts.l.length≤4 by omega)];rfl
def dS:DSurge:=⟨0,0,0⟩
def zuX (l:List DSurge) (i:Nat):Bool:=zuK (l.getD i dS) && !(decide (0 < (i:Int)) && decide ((l.getD i dS).src≤(l.getD (i - 1) dS).src))
def zuY (f:PForecast):Bool:=zuS f.tide && In (f.surges.length:Int) 1 6 && decide ((f.surges.getD 0 dS).src=0) && decide (∀ i,i < f.surges.length→zuX f.surges i=true)
theorem zuZ (s:Sl DSurge):Con.con s=s.l:=List.map_id _
theorem sget {l:List DSurge} {i:Nat} (hi:i < l.length):l.getD i dS=l[i]:=by simp [List.getD_eq_getElem?_getD,hi]
theorem zY5 (f:DForecast) (h:Hp) (hf:Enc.ok h f):Ct jV 170 [f.v] h fun v h'=>v=.bool (zuY (Con.con f))∧h'=h:=by
 have hp:=hf.2
 have hl:=hp.max
 rw [zuY,show (Con.con f).tide=Con.con f.tide from rfl,show (Con.con f).surges=f.surges.l from zuZ _]
 refine zdn (fun A W=>by simp) Tryz.func170 rfl rfl (by simp) fun W0=>?_
 by_cases h0:0 < f.surges.l.length
 ·have hs0:=hp.some h0
  have hf0:(0 < (f.surges.l.length:Int))=True:=eq_true (by omega)
  have hs1:=(zlQ hp h0).1
  simp only [go_sem,Nat.zero_mul] at hs1
  repeat' first|refine Wa ?_|refine zhF (fun _=>zY4 _ _ hf.1) ?_|refine zhF (fun _=>zYZ _ _ _ _) ?_|(simp only [go_sem,jq,jj,jy,jv,jk,jx,hf0,hs0,hs1,Int.toNat_zero,Nat.zero_mul,Int.le_refl,implies_true,true_and,and_true];try rfl)|refine Wb ?_|fail
  refine zc9 rfl (fun hc=>?_) (fun hc=>?_)
  ·refine Wk ?_
   congr 1
   simp only [jQ,Bool.not_eq_true'] at hc
   rcases hc with (hc|hc)|hc
   ·rw [hc];rfl
   ·rw [In,hc,Bool.and_false];rfl
   ·rw [sget h0,decide_eq_false (by simpa using hc),Bool.and_false,Bool.false_and]
  simp only [jp,Bool.not_eq_false'] at hc
  obtain ⟨⟨hc1,hc2⟩,hc3⟩:=hc
  have hc3:=zjE hc3
  have hpre:(zuS (Con.con f.tide) && In (f.surges.l.length:Int) 1 6 && decide ((f.surges.l.getD 0 dS).src=0))=true:=by rw [hc1,In,hc2,sget h0,decide_eq_true hc3];rfl
  rw [hpre,Bool.true_and]
  refine Wk ?_
  refine zde (ι:=Nat) (fun k=>⟨[(1,true,.c (.p 0 0)),(25,true,.c (.v f.surges.val)),(26,true,.c (.v (.int .i64 f.surges.l.length))),(27,true,.c (.v (.int .i64 k)))],[(0,.box 53 [.v (.int .i64 f.tide.mean),.v f.tide.parts.val,.v f.surges.val])],h,1⟩) (fun k=>k≤f.surges.l.length∧∀ i,i < k→zuX f.surges.l i=true) (fun k=>f.surges.l.length - k) 0 ⟨Nat.zero_le _,fun i hi=>absurd hi (Nat.not_lt_zero _)⟩ ?_ ?_
  ·refine Evs ?_
   exact Gk
  intro k hk
  refine Wk ?_
  refine zc9 rfl (fun hd=>?_) (fun hd=>?_)
  ·have hlt:=zjH hd
   have fin:∀ b:Bool,b=zuX f.surges.l k→(b=false→decide (∀ i,i < f.surges.l.length→zuX f.surges.l i=true)=false)∧(b=true→∀ i,i < k+1→zuX f.surges.l i=true):=by
    rintro b rfl
    refine ⟨fun e=>decide_eq_false fun hh=>(by rw [hh k hlt] at e;cases e),fun e i hi=>?_⟩
    rcases Nat.lt_succ_iff_lt_or_eq.1 hi with hi|rfl
    ·exact hk.2 i hi
    ·exact e
   have hsg:=sget hlt
   rcases Nat.eq_zero_or_pos k with hz|hz
   ·have hfk:(0 < (k:Int))=False:=eq_false (by omega)
    repeat' first|refine Wa ?_|(simp only [go_sem,jq,jj,jy,jv,jk,jx,zkM hp hlt,hp.some hlt,hlt,jW];try rfl)|refine Wb ?_|fail
    refine ziV rfl ?_
    refine zi3 [0] rfl (by kernel_rfl) ?_
    refine Evs ?_
    refine ziT [1] (by kernel_rfl) (by kernel_rfl) ?_
    refine Evs ?_
    refine zhF (fun _=>zY2 _ _) ?_
    refine Evs ?_
    refine zi3 [2,3,4,5,6,7,8,9,10,11,12,13,14,15,16,17,18] rfl (by kernel_rfl) ?_
    simp only [go_sem,jq,jj,jy,jv,jk,jx,hfk,decide_false,Bool.and_false,Bool.false_and,Bool.or_false,Bool.false_eq_true,false_implies,implies_true,true_and,reduceCtorEq]
    refine ziU (by kernel_rfl) ?_
    refine Wk ?_
    refine zc9 rfl (fun hq=>?_) (fun hq=>?_)
    ·refine Wk ?_
     rw [(fin (zuK f.surges.l[k]) (by rw [zuX,hsg];simp only [hfk,decide_false,Bool.false_and,Bool.not_false,Bool.and_true])).1 (by simpa using hq)]
    ·refine Wk ?_
     exact ⟨k+1,⟨hlt,(fin (zuK f.surges.l[k]) (by rw [zuX,hsg];simp only [hfk,decide_false,Bool.false_and,Bool.not_false,Bool.and_true])).2 (by simpa using hq)⟩,by omega,zjB (zjA hlt (by omega))⟩
   ·have hfk:(0 < (k:Int))=True:=eq_true (by omega)
    have hk1:k - 1 < f.surges.l.length:=by omega
    have hw:IntKind.i64.wrap ((k:Int) - 1)=((k - 1:Nat):Int):=by rw [zjz (by omega)];omega
    repeat' first|refine Wa ?_|(simp only [go_sem,jq,jj,jy,jv,jk,jx,zkM hp hlt,hp.some hlt,hlt,jW];try rfl)|refine Wb ?_|fail
    refine ziV rfl ?_
    refine zi3 [0] rfl (by kernel_rfl) ?_
    refine Evs ?_
    refine ziT [1] (by kernel_rfl) (by kernel_rfl) ?_
    refine Evs ?_
    refine zhF (fun _=>zY2 _ _) ?_
    refine Evs ?_
    refine zi3 [2,3,4,5,6,7,8,9,10,11,12,13,14,15,16,17,18] rfl (by kernel_rfl) ?_
    simp only [go_sem,jq,jj,jy,jv,jk,jx,hfk,hw,zlQ hp hk1,hp.some hk1,hk1,jW,decide_true,and_true,imp_self,implies_true,true_and,Bool.true_and,Bool.and_true]
    refine ziU (by kernel_rfl) ?_
    refine Wk ?_
    refine zc9 rfl (fun hq=>?_) (fun hq=>?_)
    ·refine Wk ?_
     rw [(fin _ rfl).1 ?_]
     rw [zuX,sget hlt,sget hk1]
     rcases (jQ _ _).mp hq with h1|h1
     ·rw [Bool.not_eq_true'] at h1
      rw [h1];rfl
     ·rw [decide_eq_true (show 0 < (k:Int) by omega),decide_eq_true (of_decide_eq_true h1),Bool.and_self,Bool.not_true,Bool.and_false]
    ·refine Wk ?_
     refine ⟨k+1,⟨hlt,(fin _ rfl).2 ?_⟩,by omega,zjB (zjA hlt (by omega))⟩
     rw [zuX,sget hlt,sget hk1]
     obtain ⟨h1,h2⟩:=Bool.or_eq_false_iff.1 hq
     rw [Bool.not_eq_false'] at h1
     rw [h1,decide_eq_false (of_decide_eq_false h2),Bool.and_false];rfl
  ·have hge:=zjI hd
   refine Wk ?_
   exact zjG (fun i hi=>hk.2 i (by omega))
 ·have h1f:(1≤(f.surges.l.length:Int))=False:=eq_false (by omega)
  repeat' first|refine Wa ?_|refine zhF (fun _=>zY4 _ _ hf.1) ?_|refine zhF (fun _=>zYZ _ _ _ _) ?_|(simp only [go_sem,jq,jj,jy,jv,jk,jx,h1f,decide_false,Bool.false_and,Bool.not_false,Bool.or_true,reduceCtorEq,false_implies,true_and];try rfl)|refine Wb ?_|fail
  refine zc9 rfl (fun hc=>?_) (fun hc=>?_)
  ·refine Wk ?_
   congr 1
   simp only [In,h1f,decide_false,Bool.false_and,Bool.and_false]
  ·simp at hc
theorem zu0 (f:DForecast) (h:Hp) (hf:Enc.ok h f):Ct jV 148 [f.v] h fun v h'=>v=.bool (zuY (Con.con f))∧h'=h:=by
 have hp:=hf.2
 have hl:=hp.max
 rw [zuY,show (Con.con f).tide=Con.con f.tide from rfl,show (Con.con f).surges=f.surges.l from zuZ _]
 refine zdn (fun A W=>by simp) Tryz.func148 rfl rfl (by simp) fun W0=>?_
 by_cases h0:0 < f.surges.l.length
 ·have hs0:=hp.some h0
  have hf0:(0 < (f.surges.l.length:Int))=True:=eq_true (by omega)
  have hs1:=(zlQ hp h0).1
  simp only [go_sem,Nat.zero_mul] at hs1
  repeat' first|refine Wa ?_|refine zhF (fun _=>zuW _ _ hf.1) ?_|refine zhF (fun _=>zum _ _ _ _) ?_|(simp only [go_sem,jq,jj,jy,jv,jk,jx,hf0,hs0,hs1,Int.toNat_zero,Nat.zero_mul,Int.le_refl,implies_true,true_and,and_true];try rfl)|refine Wb ?_|fail
  refine zc9 rfl (fun hc=>?_) (fun hc=>?_)
  ·refine Wk ?_
   congr 1
   simp only [jQ,Bool.not_eq_true'] at hc
   rcases hc with (hc|hc)|hc
   ·rw [hc];rfl
   ·rw [In,hc,Bool.and_false];rfl
   ·rw [sget h0,decide_eq_false (by simpa using hc),Bool.and_false,Bool.false_and]
  simp only [jp,Bool.not_eq_false'] at hc
  obtain ⟨⟨hc1,hc2⟩,hc3⟩:=hc
  have hc3:=zjE hc3
  have hpre:(zuS (Con.con f.tide) && In (f.surges.l.length:Int) 1 6 && decide ((f.surges.l.getD 0 dS).src=0))=true:=by rw [hc1,In,hc2,sget h0,decide_eq_true hc3];rfl
  rw [hpre,Bool.true_and]
  refine Wk ?_
  refine zde (ι:=Nat) (fun k=>⟨[(1,true,.c (.p 0 0)),(25,true,.c (.v f.surges.val)),(26,true,.c (.v (.int .i64 f.surges.l.length))),(27,true,.c (.v (.int .i64 k)))],[(0,.box 53 [.v (.int .i64 f.tide.mean),.v f.tide.parts.val,.v f.surges.val])],h,1⟩) (fun k=>k≤f.surges.l.length∧∀ i,i < k→zuX f.surges.l i=true) (fun k=>f.surges.l.length - k) 0 ⟨Nat.zero_le _,fun i hi=>absurd hi (Nat.not_lt_zero _)⟩ ?_ ?_
  ·refine Evs ?_
   exact Gk
  intro k hk
  refine Wk ?_
  refine zc9 rfl (fun hd=>?_) (fun hd=>?_)
  ·have hlt:=zjH hd
   have fin:∀ b:Bool,b=zuX f.surges.l k→(b=false→decide (∀ i,i < f.surges.l.length→zuX f.surges.l i=true)=false)∧(b=true→∀ i,i < k+1→zuX f.surges.l i=true):=by
    rintro b rfl
    refine ⟨fun e=>decide_eq_false fun hh=>(by rw [hh k hlt] at e;cases e),fun e i hi=>?_⟩
    rcases Nat.lt_succ_iff_lt_or_eq.1 hi with hi|rfl
    ·exact hk.2 i hi
    ·exact e
   have hsg:=sget hlt
   rcases Nat.eq_zero_or_pos k with hz|hz
   ·have hfk:(0 < (k:Int))=False:=eq_false (by omega)
    repeat' first|refine Wa ?_|(simp only [go_sem,jq,jj,jy,jv,jk,jx,zkM hp hlt,hp.some hlt,hlt,jW];try rfl)|refine Wb ?_|fail
    refine ziV rfl ?_
    refine zi3 [0] rfl (by kernel_rfl) ?_
    refine Evs ?_
    refine ziT [1] (by kernel_rfl) (by kernel_rfl) ?_
    refine Evs ?_
    refine zhF (fun _=>zuL _ _) ?_
    refine Evs ?_
    refine zi3 [2,3,4,5,6,7,8,9,10,11,12,13,14,15,16,17,18] rfl (by kernel_rfl) ?_
    simp only [go_sem,jq,jj,jy,jv,jk,jx,hfk,decide_false,Bool.and_false,Bool.false_and,Bool.or_false,Bool.false_eq_true,false_implies,implies_true,true_and,reduceCtorEq]
    refine ziU (by kernel_rfl) ?_
    refine Wk ?_
    refine zc9 rfl (fun hq=>?_) (fun hq=>?_)
    ·refine Wk ?_
     rw [(fin (zuK f.surges.l[k]) (by rw [zuX,hsg];simp only [hfk,decide_false,Bool.false_and,Bool.not_false,Bool.and_true])).1 (by simpa using hq)]
    ·refine Wk ?_
     exact ⟨k+1,⟨hlt,(fin (zuK f.surges.l[k]) (by rw [zuX,hsg];simp only [hfk,decide_false,Bool.false_and,Bool.not_false,Bool.and_true])).2 (by simpa using hq)⟩,by omega,zjB (zjA hlt (by omega))⟩
   ·have hfk:(0 < (k:Int))=True:=eq_true (by omega)
    have hk1:k - 1 < f.surges.l.length:=by omega
    have hw:IntKind.i64.wrap ((k:Int) - 1)=((k - 1:Nat):Int):=by rw [zjz (by omega)];omega
    repeat' first|refine Wa ?_|(simp only [go_sem,jq,jj,jy,jv,jk,jx,zkM hp hlt,hp.some hlt,hlt,jW];try rfl)|refine Wb ?_|fail
    refine ziV rfl ?_
    refine zi3 [0] rfl (by kernel_rfl) ?_
    refine Evs ?_
    refine ziT [1] (by kernel_rfl) (by kernel_rfl) ?_
    refine Evs ?_
    refine zhF (fun _=>zuL _ _) ?_
    refine Evs ?_
    refine zi3 [2,3,4,5,6,7,8,9,10,11,12,13,14,15,16,17,18] rfl (by kernel_rfl) ?_
    simp only [go_sem,jq,jj,jy,jv,jk,jx,hfk,hw,zlQ hp hk1,hp.some hk1,hk1,jW,decide_true,and_true,imp_self,implies_true,true_and,Bool.true_and,Bool.and_true]
    refine ziU (by kernel_rfl) ?_
    refine Wk ?_
    refine zc9 rfl (fun hq=>?_) (fun hq=>?_)
    ·refine Wk ?_
     rw [(fin _ rfl).1 ?_]
     rw [zuX,sget hlt,sget hk1]
     rcases (jQ _ _).mp hq with h1|h1
     ·rw [Bool.not_eq_true'] at h1
      rw [h1];rfl
     ·rw [decide_eq_true (show 0 < (k:Int) by omega),decide_eq_true (of_decide_eq_true h1),Bool.and_self,Bool.not_true,Bool.and_false]
    ·refine Wk ?_
     refine ⟨k+1,⟨hlt,(fin _ rfl).2 ?_⟩,by omega,zjB (zjA hlt (by omega))⟩
     rw [zuX,sget hlt,sget hk1]
     obtain ⟨h1,h2⟩:=Bool.or_eq_false_iff.1 hq
     rw [Bool.not_eq_false'] at h1
     rw [h1,decide_eq_false (of_decide_eq_false h2),Bool.and_false];rfl
  ·have hge:=zjI hd
   refine Wk ?_
   exact zjG (fun i hi=>hk.2 i (by omega))
 ·have h1f:(1≤(f.surges.l.length:Int))=False:=eq_false (by omega)
  repeat' first|refine Wa ?_|refine zhF (fun _=>zuW _ _ hf.1) ?_|refine zhF (fun _=>zum _ _ _ _) ?_|(simp only [go_sem,jq,jj,jy,jv,jk,jx,h1f,decide_false,Bool.false_and,Bool.not_false,Bool.or_true,reduceCtorEq,false_implies,true_and];try rfl)|refine Wb ?_|fail
  refine zc9 rfl (fun hc=>?_) (fun hc=>?_)
  ·refine Wk ?_
   congr 1
   simp only [In,h1f,decide_false,Bool.false_and,Bool.and_false]
  ·simp at hc
def dP:DPoint:=⟨ByteArray.empty,false⟩
def dG:DSegment:=⟨0,0,0,0,false⟩
theorem pget {l:List DPoint} {i:Nat} (hi:i < l.length):l.getD i dP=l[i]:=by simp [List.getD_eq_getElem?_getD,hi]
theorem gget {l:List DSegment} {i:Nat} (hi:i < l.length):l.getD i dG=l[i]:=by simp [List.getD_eq_getElem?_getD,hi]
def zu1 (l:List DPoint) (n:ByteArray):Int:=zuP (fun p=>decide (p.name=n)) l
theorem zu2 (s:Sl DPoint):Con.con s=s.l:=List.map_id _
theorem zu3 (s:Sl DSegment):Con.con s=s.l:=List.map_id _
theorem zu4 (s:Sl DShip):Con.con s=s.l:=List.map_id _
def zu5 (s:DSegment) (a b:Int):Bool:=decide (s.a=a) && decide (s.b=b) || decide (s.a=b) && decide (s.b=a)
theorem zY6 (s:DSegment) (a b:Int) (h:Hp):Ct jV 249 [s.v,.int .i64 a,.int .i64 b] h fun v h'=>v=.bool (zu5 s a b)∧h'=h:=by
 refine zdn (fun A W=>by simp) Tryz.func249 rfl rfl (by simp) fun W0=>?_
 exact Wk0
theorem zu6 (s:DSegment) (a b:Int) (h:Hp):Ct jV 255 [s.v,.int .i64 a,.int .i64 b] h fun v h'=>v=.bool (zu5 s a b)∧h'=h:=by
 refine zdn (fun A W=>by simp) Tryz.func255 rfl rfl (by simp) fun W0=>?_
 exact Wk0
def ptOk (l:List DPoint) (i:Nat):Bool:=zuN (l.getD i dP).name && decide (zu1 l (l.getD i dP).name=(i:Int))
def zu7 (n:Nat) (s:DSegment):Bool:=decide (0≤s.a∧s.a < n∧0≤s.b∧s.b < n∧s.a ≠ s.b∧0≤s.depth∧s.depth≤3000∧1≤s.minutes∧s.minutes≤240)
def zu8 (l:List DSegment) (i:Nat):Bool:=decide (∀ j,j < i→zu5 (l.getD j dG) (l.getD i dG).a (l.getD i dG).b=false)
def zu9 (n:Nat) (l:List DSegment) (i:Nat):Bool:=zu7 n (l.getD i dG) && zu8 l i
def zva (c:PChart):Bool:=decide (c.points.length≤8) && decide (c.segments.length≤10) && decide (∀ i,i < c.points.length→ptOk c.points i=true) && decide (∀ i,i < c.segments.length→zu9 c.points.length c.segments i=true)
theorem zvb (c:DChart):zva (Con.con c)=(decide (c.points.l.length≤8) && decide (c.segments.l.length≤10) && decide (∀ i,i < c.points.l.length→ptOk c.points.l i=true) && decide (∀ i,i < c.segments.l.length→zu9 c.points.l.length c.segments.l i=true)):=by
 rw [zva,show (Con.con c).points=c.points.l from zu2 _,show (Con.con c).segments=c.segments.l from zu3 _]
theorem zvc {p:Nat→Bool} {n k:Nat} (hk:k < n) (h:p k=false):decide (∀ i,i < n→p i=true)=false:=decide_eq_false fun hh=>by rw [hh k hk] at h;cases h
theorem zvd {p:Nat→Bool} {k:Nat} (hp:∀ i,i < k→p i=true) (h:p k=true):∀ i,i < k+1→p i=true:=fun i hi=>by
 rcases Nat.lt_succ_iff_lt_or_eq.1 hi with hi|rfl
 ·exact hp i hi
 ·exact h
theorem zve {p:Nat→Bool} {n k:Nat} (hk:n≤k) (hp:∀ i,i < k→p i=true):decide (∀ i,i < n→p i=true)=true:=decide_eq_true fun i hi=>hp i (by omega)
theorem zvf {p:Nat→Bool}:∀ i,i < 0→p i=true:=fun i hi=>absurd hi (Nat.not_lt_zero _)
theorem zY7 (c:DChart) (n:ByteArray) (h:Hp) (hc:Enc.ok h c):Ct jV 248 [c.v,.string n] h fun v h'=>v=.int .i64 (zu1 c.points.l n)∧h'=h:=by
 have hp:=hc.1
 have hl:=hp.max
 refine zdn (fun A W=>by simp) Tryz.func248 rfl rfl (by simp) fun W0=>?_
 refine Wk ?_
 refine zde (ι:=Nat) (fun k=>⟨[(1,true,.c (.v (.string n))),(8,true,.c (.v c.points.val)),(9,true,.c (.v (.int .i64 c.points.l.length))),(10,true,.c (.v (.int .i64 k)))],[],h,1⟩) (fun k=>k≤c.points.l.length∧∀ i (hi:i < c.points.l.length),i < k→(decide (c.points.l[i].name=n))=false) (fun k=>c.points.l.length - k) 0 ⟨Nat.zero_le _,fun i _ hi=>absurd hi (Nat.not_lt_zero _)⟩ ?_ ?_
 ·refine Evs ?_
  exact Gk
 intro k hk
 refine Wk ?_
 refine zc9 rfl (fun hd=>?_) (fun hd=>?_)
 ·have hlt:=zjH hd
  repeat' first|refine Wa ?_|(simp (maxSteps:=2000000) only [go_sem,jq,jj,jy,jv,jk,jx,zkS hp hlt,hp.some hlt,hlt,jW];try rfl)|refine Wb ?_|fail
  refine zc9 rfl (fun hq=>?_) (fun hq=>?_)
  ·refine Wk ?_
   rw [zu1,zuQ hlt hq hk.2]
  ·refine Wk ?_
   refine ⟨k+1,⟨hlt,fun i hi hik=>?_⟩,by omega,zjB (zjA hlt (by omega))⟩
   rcases Nat.lt_succ_iff_lt_or_eq.1 hik with hik|rfl
   ·exact hk.2 i hi hik
   ·exact hq
 ·have hge:=zjI hd
  refine Wk ?_
  rw [zu1,zuR (fun i hi=>hk.2 i hi (by omega))]
theorem zvg (c:DChart) (n:ByteArray) (h:Hp) (hc:Enc.ok h c):Ct jV 254 [c.v,.string n] h fun v h'=>v=.int .i64 (zu1 c.points.l n)∧h'=h:=by
 have hp:=hc.1
 have hl:=hp.max
 refine zdn (fun A W=>by simp) Tryz.func254 rfl rfl (by simp) fun W0=>?_
 refine Wk ?_
 refine zde (ι:=Nat) (fun k=>⟨[(1,true,.c (.v (.string n))),(8,true,.c (.v c.points.val)),(9,true,.c (.v (.int .i64 c.points.l.length))),(10,true,.c (.v (.int .i64 k)))],[],h,1⟩) (fun k=>k≤c.points.l.length∧∀ i (hi:i < c.points.l.length),i < k→(decide (c.points.l[i].name=n))=false) (fun k=>c.points.l.length - k) 0 ⟨Nat.zero_le _,fun i _ hi=>absurd hi (Nat.not_lt_zero _)⟩ ?_ ?_
 ·refine Evs ?_
  exact Gk
 intro k hk
 refine Wk ?_
 refine zc9 rfl (fun hd=>?_) (fun hd=>?_)
 ·have hlt:=zjH hd
  repeat' first|refine Wa ?_|(simp (maxSteps:=2000000) only [go_sem,jq,jj,jy,jv,jk,jx,zkS hp hlt,hp.some hlt,hlt,jW];try rfl)|refine Wb ?_|fail
  refine zc9 rfl (fun hq=>?_) (fun hq=>?_)
  ·refine Wk ?_
   rw [zu1,zuQ hlt hq hk.2]
  ·refine Wk ?_
   refine ⟨k+1,⟨hlt,fun i hi hik=>?_⟩,by omega,zjB (zjA hlt (by omega))⟩
   rcases Nat.lt_succ_iff_lt_or_eq.1 hik with hik|rfl
   ·exact hk.2 i hi hik
   ·exact hq
 ·have hge:=zjI hd
  refine Wk ?_
  rw [zu1,zuR (fun i hi=>hk.2 i hi (by omega))]
theorem zY8 (c:DChart) (h:Hp) (hc:Enc.ok h c):Ct jV 184 [c.v] h fun v h'=>v=.bool (zva (Con.con c))∧h'=h:=by
 have hp:=hc.1
 have hg:=hc.2
 have hl:=hp.max
 have hl2:=hg.max
 have hw:IntKind.i64.wrap ((c.points.l.length:Int) - 1)=(c.points.l.length:Int) - 1:=zjz (by omega)
 rw [zvb]
 refine zdn (fun A W=>by simp) Tryz.func184 rfl rfl (by simp) fun W0=>?_
 refine Wk ?_
 refine zc9 rfl (fun hc1=>?_) (fun hc1=>?_)
 ·refine Wk ?_
  congr 1
  rcases (jQ _ _).mp hc1 with h1|h1
  ·rw [decide_eq_false (by have:=of_decide_eq_true h1;omega)];rfl
  ·rw [decide_eq_false (p:=c.segments.l.length≤10) (by have:=of_decide_eq_true h1;omega),Bool.and_false];rfl
 obtain ⟨hc2,hc3⟩:=Bool.or_eq_false_iff.1 hc1
 have hc2:=of_decide_eq_false hc2
 have hc3:=of_decide_eq_false hc3
 rw [decide_eq_true (show c.points.l.length≤8 by omega),decide_eq_true (show c.segments.l.length≤10 by omega),Bool.and_self,Bool.true_and]
 refine Wk ?_
 refine zde (ι:=Nat) (fun k=>⟨[(1,true,.c (.p 0 0)),(20,true,.c (.v c.points.val)),(21,true,.c (.v (.int .i64 c.points.l.length))),(22,true,.c (.v (.int .i64 k)))],[(0,.box 57 [.v c.points.val,.v c.segments.val])],h,1⟩) (fun k=>k≤c.points.l.length∧∀ i,i < k→ptOk c.points.l i=true) (fun k=>c.points.l.length - k) 0 ⟨Nat.zero_le _,zvf⟩ ?_ ?_
 ·refine Evs ?_
  exact Gk
 ·intro k hk
  refine Wk ?_
  refine zc9 rfl (fun hd=>?_) (fun hd=>?_)
  ·have hlt:=zjH hd
   repeat' first|refine Wa ?_|refine zhF (fun _=>zY3 _ _ (hp.el hlt)) ?_|refine zhF (fun _=>zY7 c _ _ hc) ?_|(simp (maxSteps:=2000000) only [go_sem,jq,jj,jy,jv,jk,jx,zkS hp hlt,hp.some hlt,hlt,jW];try rfl)|refine Wb ?_|fail
   refine zc9 rfl (fun hq=>?_) (fun hq=>?_)
   ·refine Wk ?_
    rw [zvc hlt ?_];rfl
    rw [ptOk,pget hlt]
    rcases (jQ _ _).mp hq with h1|h1
    ·rw [Bool.not_eq_true'] at h1;rw [h1];rfl
    ·rw [decide_eq_false (zjD h1),Bool.and_false]
   ·obtain ⟨h1,h2⟩:=Bool.or_eq_false_iff.1 hq
    rw [Bool.not_eq_false'] at h1
    refine Wk ?_
    exact ⟨k+1,⟨hlt,zvd hk.2 (by rw [ptOk,pget hlt,h1,decide_eq_true (zjE h2)];rfl)⟩,by omega,zjB (zjA hlt (by omega))⟩
  ·have hge:=zjI hd
   rw [zve hge hk.2,Bool.true_and]
   refine Wk ?_
   refine zde (ι:=Nat) (fun k=>⟨[(1,true,.c (.p 0 0)),(41,true,.c (.v c.segments.val)),(42,true,.c (.v (.int .i64 c.segments.l.length))),(43,true,.c (.v (.int .i64 k)))],[(0,.box 57 [.v c.points.val,.v c.segments.val])],h,1⟩) (fun k=>k≤c.segments.l.length∧∀ i,i < k→zu9 c.points.l.length c.segments.l i=true) (fun k=>c.segments.l.length - k) 0 ⟨Nat.zero_le _,zvf⟩ ?_ ?_
   ·refine Evs ?_
    exact Gk
   intro k hk
   refine Wk ?_
   refine zc9 rfl (fun hd=>?_) (fun hd=>?_)
   ·have hlt:=zjH hd
    repeat' first|refine Wa ?_|refine zhF (fun _=>zYZ _ _ _ _) ?_|refine zhF (fun _=>zYZ _ _ _ _) ?_|(simp (maxSteps:=2000000) only [go_sem,jq,jj,jy,jv,jk,jx,zkU hg hlt,hg.some hlt,hlt,jW,hw];try rfl)|refine Wb ?_|fail
    refine zc9 rfl (fun hq=>?_) (fun hq=>?_)
    ·refine Wk ?_
     rw [zvc hlt ?_]
     rw [zu9,gget hlt,zu7,decide_eq_false ?_,Bool.false_and]
     simp only [jQ,Bool.not_eq_true',Bool.and_eq_false_iff,decide_eq_false_iff_not,beq_iff_eq] at hq
     omega
    ·have hin:zu7 c.points.l.length c.segments.l[k]=true:=by
      simp only [jp,Bool.not_eq_false',jJ,decide_eq_true_eq,beq_eq_false_iff_ne] at hq
      rw [zu7]
      refine decide_eq_true ?_
      omega
     have hgo:=Sl.to_ok hg k
     have hlt0:=Sl.to_len hk.1
     have hcap:=hg.1
     refine Wk ?_
     refine ⟨by omega,?_⟩
     simp only [Int.toNat_zero,Nat.sub_zero,Nat.zero_mul,zmA,zmB,ite_self]
     rw [zmC hk.1]
     refine Wk ?_
     refine zde (ι:=Nat) (fun j=>⟨[(1,true,.c (.p 0 0)),(6,true,.c (.p 1 0)),(41,true,.c (.v c.segments.val)),(42,true,.c (.v (.int .i64 c.segments.l.length))),(43,true,.c (.v (.int .i64 k))),(88,true,.c (.v (c.segments.to k).val)),(89,true,.c (.v (.int .i64 k))),(90,true,.c (.v (.int .i64 j)))],[(0,.box 57 [.v c.points.val,.v c.segments.val]),(1,.box 230 [.v (.int .i64 c.segments.l[k].a),.v (.int .i64 c.segments.l[k].b),.v (.int .i64 c.segments.l[k].depth),.v (.int .i64 c.segments.l[k].minutes),.v (.bool c.segments.l[k].meet)])],h,2⟩) (fun j=>j≤k∧∀ i,i < j→zu5 (c.segments.l.getD i dG) c.segments.l[k].a c.segments.l[k].b=false) (fun j=>k - j) 0 ⟨Nat.zero_le _,fun i hi=>absurd hi (Nat.not_lt_zero _)⟩ ?_ ?_
     ·refine Evs ?_
      exact Gk
     intro j hj
     refine Wk ?_
     refine zc9 rfl (fun hq2=>?_) (fun hq2=>?_)
     ·have hltj:=zjH hq2
      have hltj':j < (c.segments.to k).l.length:=by omega
      have hltj2:j < c.segments.l.length:=by omega
      have hje:=Sl.to_get hltj' hltj2
      repeat' first|refine Wa ?_|refine zhF (fun _=>zY6 _ _ _ _) ?_|(simp (maxSteps:=2000000) only [go_sem,jq,jj,jy,jv,jk,jx,zkU hgo hltj',hgo.some hltj',hltj',hltj,jW,hje];try rfl)|refine Wb ?_|fail
      refine zc9 rfl (fun hq3=>?_) (fun hq3=>?_)
      ·refine Wk ?_
       rw [zvc hlt ?_]
       rw [zu9,gget hlt,hin,Bool.true_and,zu8]
       refine decide_eq_false fun hh=>?_
       have:=hh j hltj
       rw [gget hltj2,gget hlt,hq3] at this
       cases this
      ·refine Wk ?_
       exact ⟨j+1,⟨hltj,fun i hi=>by
        rcases Nat.lt_succ_iff_lt_or_eq.1 hi with hi|rfl
        ·exact hj.2 i hi
        ·rw [gget hltj2];exact hq3⟩,by omega,zjB (zjA hltj (by omega))⟩
     ·have hgej:=zjI hq2
      refine Wk ?_
      refine ⟨k+1,⟨hlt,zvd hk.2 ?_⟩,by omega,zjB (zjA hlt (by omega))⟩
      rw [zu9,gget hlt,hin,Bool.true_and,zu8]
      refine decide_eq_true fun i hi=>?_
      rw [gget hlt];exact hj.2 i (by omega)
   ·have hge:=zjI hd
    refine Wk ?_
    rw [zve hge hk.2]
theorem zvh (c:DChart) (h:Hp) (hc:Enc.ok h c):Ct jV 192 [c.v] h fun v h'=>v=.bool (zva (Con.con c))∧h'=h:=by
 have hp:=hc.1
 have hg:=hc.2
 have hl:=hp.max
 have hl2:=hg.max
 have hw:IntKind.i64.wrap ((c.points.l.length:Int) - 1)=(c.points.l.length:Int) - 1:=zjz (by omega)
 rw [zvb]
 refine zdn (fun A W=>by simp) Tryz.func192 rfl rfl (by simp) fun W0=>?_
 refine Wk ?_
 refine zc9 rfl (fun hc1=>?_) (fun hc1=>?_)
 ·refine Wk ?_
  congr 1
  rcases (jQ _ _).mp hc1 with h1|h1
  ·rw [decide_eq_false (by have:=of_decide_eq_true h1;omega)];rfl
  ·rw [decide_eq_false (p:=c.segments.l.length≤10) (by have:=of_decide_eq_true h1;omega),Bool.and_false];rfl
 obtain ⟨hc2,hc3⟩:=Bool.or_eq_false_iff.1 hc1
 have hc2:=of_decide_eq_false hc2
 have hc3:=of_decide_eq_false hc3
 rw [decide_eq_true (show c.points.l.length≤8 by omega),decide_eq_true (show c.segments.l.length≤10 by omega),Bool.and_self,Bool.true_and]
 refine Wk ?_
 refine zde (ι:=Nat) (fun k=>⟨[(1,true,.c (.p 0 0)),(20,true,.c (.v c.points.val)),(21,true,.c (.v (.int .i64 c.points.l.length))),(22,true,.c (.v (.int .i64 k)))],[(0,.box 57 [.v c.points.val,.v c.segments.val])],h,1⟩) (fun k=>k≤c.points.l.length∧∀ i,i < k→ptOk c.points.l i=true) (fun k=>c.points.l.length - k) 0 ⟨Nat.zero_le _,zvf⟩ ?_ ?_
 ·refine Evs ?_
  exact Gk
 ·intro k hk
  refine Wk ?_
  refine zc9 rfl (fun hd=>?_) (fun hd=>?_)
  ·have hlt:=zjH hd
   repeat' first|refine Wa ?_|refine zhF (fun _=>zuO _ _ (hp.el hlt)) ?_|refine zhF (fun _=>zvg c _ _ hc) ?_|(simp (maxSteps:=2000000) only [go_sem,jq,jj,jy,jv,jk,jx,zkS hp hlt,hp.some hlt,hlt,jW];try rfl)|refine Wb ?_|fail
   refine zc9 rfl (fun hq=>?_) (fun hq=>?_)
   ·refine Wk ?_
    rw [zvc hlt ?_];rfl
    rw [ptOk,pget hlt]
    rcases (jQ _ _).mp hq with h1|h1
    ·rw [Bool.not_eq_true'] at h1;rw [h1];rfl
    ·rw [decide_eq_false (zjD h1),Bool.and_false]
   ·obtain ⟨h1,h2⟩:=Bool.or_eq_false_iff.1 hq
    rw [Bool.not_eq_false'] at h1
    refine Wk ?_
    exact ⟨k+1,⟨hlt,zvd hk.2 (by rw [ptOk,pget hlt,h1,decide_eq_true (zjE h2)];rfl)⟩,by omega,zjB (zjA hlt (by omega))⟩
  ·have hge:=zjI hd
   rw [zve hge hk.2,Bool.true_and]
   refine Wk ?_
   refine zde (ι:=Nat) (fun k=>⟨[(1,true,.c (.p 0 0)),(41,true,.c (.v c.segments.val)),(42,true,.c (.v (.int .i64 c.segments.l.length))),(43,true,.c (.v (.int .i64 k)))],[(0,.box 57 [.v c.points.val,.v c.segments.val])],h,1⟩) (fun k=>k≤c.segments.l.length∧∀ i,i < k→zu9 c.points.l.length c.segments.l i=true) (fun k=>c.segments.l.length - k) 0 ⟨Nat.zero_le _,zvf⟩ ?_ ?_
   ·refine Evs ?_
    exact Gk
   intro k hk
   refine Wk ?_
   refine zc9 rfl (fun hd=>?_) (fun hd=>?_)
   ·have hlt:=zjH hd
    repeat' first|refine Wa ?_|refine zhF (fun _=>zuo _ _ _) ?_|refine zhF (fun _=>zum _ _ _ _) ?_|(simp (maxSteps:=2000000) only [go_sem,jq,jj,jy,jv,jk,jx,zkU hg hlt,hg.some hlt,hlt,jW];try rfl)|refine Wb ?_|fail
    refine zc9 rfl (fun hq=>?_) (fun hq=>?_)
    ·refine Wk ?_
     rw [zvc hlt ?_]
     rw [zu9,gget hlt,zu7,decide_eq_false ?_,Bool.false_and]
     simp only [jQ,Bool.not_eq_true',Bool.and_eq_false_iff,decide_eq_false_iff_not,beq_iff_eq] at hq
     omega
    ·have hin:zu7 c.points.l.length c.segments.l[k]=true:=by
      simp only [jp,Bool.not_eq_false',jJ,decide_eq_true_eq,beq_eq_false_iff_ne] at hq
      rw [zu7]
      refine decide_eq_true ?_
      omega
     have hgo:=Sl.to_ok hg k
     have hlt0:=Sl.to_len hk.1
     have hcap:=hg.1
     refine Wk ?_
     refine ⟨by omega,?_⟩
     simp only [Int.toNat_zero,Nat.sub_zero,Nat.zero_mul,zmA,zmB,ite_self]
     rw [zmC hk.1]
     refine Wk ?_
     refine zde (ι:=Nat) (fun j=>⟨[(1,true,.c (.p 0 0)),(6,true,.c (.p 1 0)),(41,true,.c (.v c.segments.val)),(42,true,.c (.v (.int .i64 c.segments.l.length))),(43,true,.c (.v (.int .i64 k))),(86,true,.c (.v (c.segments.to k).val)),(87,true,.c (.v (.int .i64 k))),(88,true,.c (.v (.int .i64 j)))],[(0,.box 57 [.v c.points.val,.v c.segments.val]),(1,.box 230 [.v (.int .i64 c.segments.l[k].a),.v (.int .i64 c.segments.l[k].b),.v (.int .i64 c.segments.l[k].depth),.v (.int .i64 c.segments.l[k].minutes),.v (.bool c.segments.l[k].meet)])],h,2⟩) (fun j=>j≤k∧∀ i,i < j→zu5 (c.segments.l.getD i dG) c.segments.l[k].a c.segments.l[k].b=false) (fun j=>k - j) 0 ⟨Nat.zero_le _,fun i hi=>absurd hi (Nat.not_lt_zero _)⟩ ?_ ?_
     ·refine Evs ?_
      exact Gk
     intro j hj
     refine Wk ?_
     refine zc9 rfl (fun hq2=>?_) (fun hq2=>?_)
     ·have hltj:=zjH hq2
      have hltj':j < (c.segments.to k).l.length:=by omega
      have hltj2:j < c.segments.l.length:=by omega
      have hje:=Sl.to_get hltj' hltj2
      repeat' first|refine Wa ?_|refine zhF (fun _=>zu6 _ _ _ _) ?_|(simp (maxSteps:=2000000) only [go_sem,jq,jj,jy,jv,jk,jx,zkU hgo hltj',hgo.some hltj',hltj',hltj,jW,hje];try rfl)|refine Wb ?_|fail
      refine zc9 rfl (fun hq3=>?_) (fun hq3=>?_)
      ·refine Wk ?_
       rw [zvc hlt ?_]
       rw [zu9,gget hlt,hin,Bool.true_and,zu8]
       refine decide_eq_false fun hh=>?_
       have:=hh j hltj
       rw [gget hltj2,gget hlt,hq3] at this
       cases this
      ·refine Wk ?_
       exact ⟨j+1,⟨hltj,fun i hi=>by
        rcases Nat.lt_succ_iff_lt_or_eq.1 hi with hi|rfl
        ·exact hj.2 i hi
        ·rw [gget hltj2];exact hq3⟩,by omega,zjB (zjA hltj (by omega))⟩
     ·have hgej:=zjI hq2
      refine Wk ?_
      refine ⟨k+1,⟨hlt,zvd hk.2 ?_⟩,by omega,zjB (zjA hlt (by omega))⟩
      rw [zu9,gget hlt,hin,Bool.true_and,zu8]
      refine decide_eq_true fun i hi=>?_
      rw [gget hlt];exact hj.2 i (by omega)
   ·have hge:=zjI hd
    refine Wk ?_
    rw [zve hge hk.2]
def dH:DShip:=⟨ByteArray.empty,0,0,0,0,false⟩
theorem hget {l:List DShip} {i:Nat} (hi:i < l.length):l.getD i dH=l[i]:=by simp [List.getD_eq_getElem?_getD,hi]
def zvi (l:List DShip) (n:ByteArray):Int:=zuP (fun p=>decide (p.name=n)) l
def zvj (s:DShip):Bool:=zuN s.name && In s.length 10 400 && In s.draught 100 2000 && In s.line 0 3 && In s.tugs 0 4
def shOk (l:List DShip) (i:Nat):Bool:=zvj (l.getD i dH) && decide (zvi l (l.getD i dH).name=(i:Int))
def zvk (l:List DShip):Bool:=decide (l.length≤6) && decide (∀ i,i < l.length→shOk l i=true)
def zvl (r:DRegime):Bool:=In r.gap 0 60
def zvm (l:List Int):Bool:=decide (l.length=64) && l.all (fun n=>In n 0 240)
def zvn (w:PCrew):Bool:=In w.tugs 0 12 && In w.pilots 0 12 && (In w.rest 0 2880 && zvm w.moves)
def zvo (x:PHarbour):Bool:=zuY x.forecast && zva x.chart && zvk x.fleet && zvl x.regime && zvn x.crew
theorem zY9 (c:Sl DShip) (n:ByteArray) (h:Hp) (hp:c.Ok h):Ct jV 250 [c.val,.string n] h fun v h'=>v=.int .i64 (zvi c.l n)∧h'=h:=by
 have hl:=hp.max
 refine zdn (fun A W=>by simp) Tryz.func250 rfl rfl (by simp) fun W0=>?_
 refine Wk ?_
 refine zde (ι:=Nat) (fun k=>⟨[(1,true,.c (.v (.string n))),(7,true,.c (.v c.val)),(8,true,.c (.v (.int .i64 c.l.length))),(9,true,.c (.v (.int .i64 k)))],[],h,1⟩) (fun k=>k≤c.l.length∧∀ i (hi:i < c.l.length),i < k→(decide (c.l[i].name=n))=false) (fun k=>c.l.length - k) 0 ⟨Nat.zero_le _,fun i _ hi=>absurd hi (Nat.not_lt_zero _)⟩ ?_ ?_
 ·refine Evs ?_
  exact Gk
 intro k hk
 refine Wk ?_
 refine zc9 rfl (fun hd=>?_) (fun hd=>?_)
 ·have hlt:=zjH hd
  repeat' first|refine Wa ?_|(simp only [go_sem,jq,jj,jy,jv,jk,jx,zk0 hp hlt,hp.some hlt,hlt,jW];try rfl)|refine Wb ?_|fail
  refine zc9 rfl (fun hq=>?_) (fun hq=>?_)
  ·refine Wk ?_
   rw [zvi,zuQ hlt hq hk.2]
  ·refine Wk ?_
   refine ⟨k+1,⟨hlt,fun i hi hik=>?_⟩,by omega,zjB (zjA hlt (by omega))⟩
   rcases Nat.lt_succ_iff_lt_or_eq.1 hik with hik|rfl
   ·exact hk.2 i hi hik
   ·exact hq
 ·have hge:=zjI hd
  refine Wk ?_
  rw [zvi,zuR (fun i hi=>hk.2 i hi (by omega))]
theorem zZa (s:DShip) (h:Hp) (hs:Enc.ok h s):Ct jV 171 [s.v] h fun v h'=>v=.bool (zvj s)∧h'=h:=by
 refine zdn (fun A W=>by simp) Tryz.func171 rfl rfl (by simp) fun W0=>?_
 repeat' first|refine Wa ?_|refine zhF (fun _=>zY3 _ _ hs.1) ?_|refine zhF (fun _=>zYZ _ _ _ _) ?_|(simp only [go_sem,jq,jj,jy,jv,jk,jx];try rfl)|refine Wb ?_|fail
 skip
 skip
theorem zZb (c:Sl DShip) (h:Hp) (hp:c.Ok h):Ct jV 185 [c.val] h fun v h'=>v=.bool (zvk c.l)∧h'=h:=by
 have hl:=hp.max
 rw [zvk]
 refine zdn (fun A W=>by simp) Tryz.func185 rfl rfl (by simp) fun W0=>?_
 refine Wk ?_
 refine zc9 rfl (fun hc=>?_) (fun hc=>?_)
 ·refine Wk ?_
  rw [decide_eq_false (by have:=of_decide_eq_true hc;omega)];rfl
 rw [decide_eq_true (show c.l.length≤6 by have:=of_decide_eq_false hc;omega),Bool.true_and]
 refine Wk ?_
 refine zde (ι:=Nat) (fun k=>⟨[(0,true,.c (.v c.val)),(8,true,.c (.v c.val)),(9,true,.c (.v (.int .i64 c.l.length))),(10,true,.c (.v (.int .i64 k)))],[],h,0⟩) (fun k=>k≤c.l.length∧∀ i,i < k→shOk c.l i=true) (fun k=>c.l.length - k) 0 ⟨Nat.zero_le _,zvf⟩ ?_ ?_
 ·refine Evs ?_
  exact Gk
 intro k hk
 refine Wk ?_
 refine zc9 rfl (fun hd=>?_) (fun hd=>?_)
 ·have hlt:=zjH hd
  repeat' first|refine Wa ?_|refine zhF (fun _=>zZa _ _ (hp.el hlt)) ?_|refine zhF (fun _=>zY9 c _ _ hp) ?_|(simp only [go_sem,jq,jj,jy,jv,jk,jx,zk0 hp hlt,hp.some hlt,hlt,jW];try rfl)|refine Wb ?_|fail
  refine zc9 rfl (fun hq=>?_) (fun hq=>?_)
  ·refine Wk ?_
   rw [zvc hlt ?_]
   rw [shOk,hget hlt]
   rcases (jQ _ _).mp hq with h1|h1
   ·rw [Bool.not_eq_true'] at h1;rw [h1];rfl
   ·rw [decide_eq_false (zjD h1),Bool.and_false]
  ·obtain ⟨h1,h2⟩:=Bool.or_eq_false_iff.1 hq
   rw [Bool.not_eq_false'] at h1
   refine Wk ?_
   exact ⟨k+1,⟨hlt,zvd hk.2 (by rw [shOk,hget hlt,h1,decide_eq_true (zjE h2)];rfl)⟩,by omega,zjB (zjA hlt (by omega))⟩
 ·have hge:=zjI hd
  refine Wk ?_
  rw [zve hge hk.2]
theorem zZc (s:DRegime) (h:Hp):Ct jV 186 [s.v] h fun v h'=>v=.bool (zvl s)∧h'=h:=by
 refine zdn (fun A W=>by simp) Tryz.func186 rfl rfl (by simp) fun W0=>?_
 repeat' first|refine Wa ?_|refine zhF (fun _=>zYZ _ _ _ _) ?_|(simp only [go_sem,jq,jj,jy,jv,jk,jx];try rfl)|refine Wb ?_|fail
theorem zvp (c:Sl DShip) (n:ByteArray) (h:Hp) (hp:c.Ok h):Ct jV 256 [c.val,.string n] h fun v h'=>v=.int .i64 (zvi c.l n)∧h'=h:=by
 have hl:=hp.max
 refine zdn (fun A W=>by simp) Tryz.func256 rfl rfl (by simp) fun W0=>?_
 refine Wk ?_
 refine zde (ι:=Nat) (fun k=>⟨[(1,true,.c (.v (.string n))),(7,true,.c (.v c.val)),(8,true,.c (.v (.int .i64 c.l.length))),(9,true,.c (.v (.int .i64 k)))],[],h,1⟩) (fun k=>k≤c.l.length∧∀ i (hi:i < c.l.length),i < k→(decide (c.l[i].name=n))=false) (fun k=>c.l.length - k) 0 ⟨Nat.zero_le _,fun i _ hi=>absurd hi (Nat.not_lt_zero _)⟩ ?_ ?_
 ·refine Evs ?_
  exact Gk
 intro k hk
 refine Wk ?_
 refine zc9 rfl (fun hd=>?_) (fun hd=>?_)
 ·have hlt:=zjH hd
  repeat' first|refine Wa ?_|(simp only [go_sem,jq,jj,jy,jv,jk,jx,zk0 hp hlt,hp.some hlt,hlt,jW];try rfl)|refine Wb ?_|fail
  refine zc9 rfl (fun hq=>?_) (fun hq=>?_)
  ·refine Wk ?_
   rw [zvi,zuQ hlt hq hk.2]
  ·refine Wk ?_
   refine ⟨k+1,⟨hlt,fun i hi hik=>?_⟩,by omega,zjB (zjA hlt (by omega))⟩
   rcases Nat.lt_succ_iff_lt_or_eq.1 hik with hik|rfl
   ·exact hk.2 i hi hik
   ·exact hq
 ·have hge:=zjI hd
  refine Wk ?_
  rw [zvi,zuR (fun i hi=>hk.2 i hi (by omega))]
theorem zvq (s:DShip) (h:Hp) (hs:Enc.ok h s):Ct jV 242 [s.v] h fun v h'=>v=.bool (zvj s)∧h'=h:=by
 refine zdn (fun A W=>by simp) Tryz.func242 rfl rfl (by simp) fun W0=>?_
 repeat' first|refine Wa ?_|refine zhF (fun _=>zuO _ _ hs.1) ?_|refine zhF (fun _=>zum _ _ _ _) ?_|refine zhF (fun _=>zuo _ _ _) ?_|(simp only [go_sem,jq,jj,jy,jv,jk,jx];try rfl)|refine Wb ?_|fail
 congr 1;rw [Bool.eq_iff_iff];simp only [zvj,In,jJ,jQ,Bool.not_eq_true',decide_eq_true_eq,decide_eq_false_iff_not,beq_iff_eq,and_assoc]
 constructor <;> intro hh <;> (refine ⟨hh.1,?_⟩;omega)
theorem zvr (c:Sl DShip) (h:Hp) (hp:c.Ok h):Ct jV 193 [c.val] h fun v h'=>v=.bool (zvk c.l)∧h'=h:=by
 have hl:=hp.max
 rw [zvk]
 refine zdn (fun A W=>by simp) Tryz.func193 rfl rfl (by simp) fun W0=>?_
 refine Wk ?_
 refine zc9 rfl (fun hc=>?_) (fun hc=>?_)
 ·refine Wk ?_
  rw [decide_eq_false (by have:=of_decide_eq_true hc;omega)];rfl
 rw [decide_eq_true (show c.l.length≤6 by have:=of_decide_eq_false hc;omega),Bool.true_and]
 refine Wk ?_
 refine zde (ι:=Nat) (fun k=>⟨[(0,true,.c (.v c.val)),(8,true,.c (.v c.val)),(9,true,.c (.v (.int .i64 c.l.length))),(10,true,.c (.v (.int .i64 k)))],[],h,0⟩) (fun k=>k≤c.l.length∧∀ i,i < k→shOk c.l i=true) (fun k=>c.l.length - k) 0 ⟨Nat.zero_le _,zvf⟩ ?_ ?_
 ·refine Evs ?_
  exact Gk
 intro k hk
 refine Wk ?_
 refine zc9 rfl (fun hd=>?_) (fun hd=>?_)
 ·have hlt:=zjH hd
  repeat' first|refine Wa ?_|refine zhF (fun _=>zvq _ _ (hp.el hlt)) ?_|refine zhF (fun _=>zvp c _ _ hp) ?_|(simp only [go_sem,jq,jj,jy,jv,jk,jx,zk0 hp hlt,hp.some hlt,hlt,jW];try rfl)|refine Wb ?_|fail
  refine zc9 rfl (fun hq=>?_) (fun hq=>?_)
  ·refine Wk ?_
   rw [zvc hlt ?_]
   rw [shOk,hget hlt]
   rcases (jQ _ _).mp hq with h1|h1
   ·rw [Bool.not_eq_true'] at h1;rw [h1];rfl
   ·rw [decide_eq_false (zjD h1),Bool.and_false]
  ·obtain ⟨h1,h2⟩:=Bool.or_eq_false_iff.1 hq
   rw [Bool.not_eq_false'] at h1
   refine Wk ?_
   exact ⟨k+1,⟨hlt,zvd hk.2 (by rw [shOk,hget hlt,h1,decide_eq_true (zjE h2)];rfl)⟩,by omega,zjB (zjA hlt (by omega))⟩
 ·have hge:=zjI hd
  refine Wk ?_
  rw [zve hge hk.2]
theorem zvs (s:DRegime) (h:Hp):Ct jV 194 [s.v] h fun v h'=>v=.bool (zvl s)∧h'=h:=by
 refine zdn (fun A W=>by simp) Tryz.func194 rfl rfl (by simp) fun W0=>?_
 repeat' first|refine Wa ?_|refine zhF (fun _=>zum _ _ _ _) ?_|(simp only [go_sem,jq,jj,jy,jv,jk,jx];try rfl)|refine Wb ?_|fail
theorem zvt {l:List Int} {k:Nat} (hk:k < l.length) (h:In l[k] 0 240=false):zvm l=false:=by rw [zvm,zuU (p:=fun n=>In n 0 240) hk h,Bool.and_false]
theorem zvu {l:List Int} {k:Nat} (h64:l.length=64) (hk:l.length≤k) (hp:(l.take k).all (fun n=>In n 0 240)=true):zvm l=true:=by
 rw [List.take_of_length_le hk] at hp
 rw [zvm,hp,decide_eq_true h64];rfl
theorem zZd (n:Int) (a:Sl Int) (h:Hp) (ha:a.Ok h):Ct jV 251 [.int .i64 n,a.val] h fun v h'=>v=.bool (In n 0 2880 && zvm a.l)∧h'=h:=by
 have hl:=ha.max
 refine zdn (fun A W=>by simp) Tryz.func251 rfl rfl (by simp) fun W0=>?_
 repeat' first|refine Wa ?_|refine zhF (fun _=>zYZ _ _ _ _) ?_|(simp only [go_sem,jq,jj,jy,jv,jk,jx];try rfl)|refine Wb ?_|fail
 refine zc9 rfl (fun hc=>?_) (fun hc=>?_)
 ·refine Wk ?_
  congr 1
  rcases (jQ _ _).mp hc with h1|h1
  ·rw [Bool.not_eq_true'] at h1;rw [In,h1];rfl
  ·rw [zvm,decide_eq_false (by have:=zjD h1;omega),Bool.false_and,Bool.and_false]
 obtain ⟨h1,h2⟩:=Bool.or_eq_false_iff.1 hc
 rw [Bool.not_eq_false'] at h1
 have h64:a.l.length=64:=by have:=zjE h2;omega
 rw [In,h1,Bool.true_and]
 refine Wk ?_
 refine zde (ι:=Nat) (fun k=>⟨[(15,true,.c (.v a.val)),(16,true,.c (.v (.int .i64 a.l.length))),(17,true,.c (.v (.int .i64 k)))],[],h,0⟩) (fun k=>k≤a.l.length∧(a.l.take k).all (fun n=>In n 0 240)=true) (fun k=>a.l.length - k) 0 ⟨Nat.zero_le _,rfl⟩ ?_ ?_
 ·refine Evs ?_
  exact Gk
 intro k hk
 refine Wk ?_
 refine zc9 rfl (fun hd=>?_) (fun hd=>?_)
 ·have hlt:=zjH hd
  repeat' first|refine Wa ?_|refine zhF (fun _=>zYZ _ _ _ _) ?_|(simp only [go_sem,jq,jj,jy,jv,jk,jx,zkv ha hlt,ha.some hlt,hlt,jW];try rfl)|refine Wb ?_|fail
  refine zc9 rfl (fun hq=>?_) (fun hq=>?_)
  ·rw [Bool.not_eq_true'] at hq
   refine Wk ?_
   rw [zvt hlt hq]
  ·rw [Bool.not_eq_false'] at hq
   refine Wk ?_
   exact ⟨k+1,⟨hlt,zuV hlt hk.2 hq⟩,by omega,zjB (zjA hlt (by omega))⟩
 ·have hge:=zjI hd
  refine Wk ?_
  rw [zvu h64 hge hk.2]
theorem zvv (a:Sl Int) (h:Hp) (ha:a.Ok h):Ct jV 257 [a.val] h fun v h'=>v=.bool (zvm a.l)∧h'=h:=by
 have hl:=ha.max
 refine zdn (fun A W=>by simp) Tryz.func257 rfl rfl (by simp) fun W0=>?_
 refine Wk ?_
 refine zc9 rfl (fun hc=>?_) (fun hc=>?_)
 ·refine Wk ?_
  rw [zvm,decide_eq_false (by have:=zjD hc;omega)];rfl
 have h64:a.l.length=64:=by have:=zjE hc;omega
 refine Wk ?_
 refine zde (ι:=Nat) (fun k=>⟨[(8,true,.c (.v a.val)),(9,true,.c (.v (.int .i64 a.l.length))),(10,true,.c (.v (.int .i64 k)))],[],h,0⟩) (fun k=>k≤a.l.length∧(a.l.take k).all (fun n=>In n 0 240)=true) (fun k=>a.l.length - k) 0 ⟨Nat.zero_le _,rfl⟩ ?_ ?_
 ·refine Evs ?_
  exact Gk
 intro k hk
 refine Wk ?_
 refine zc9 rfl (fun hd=>?_) (fun hd=>?_)
 ·have hlt:=zjH hd
  repeat' first|refine Wa ?_|refine zhF (fun _=>zum _ _ _ _) ?_|(simp only [go_sem,jq,jj,jy,jv,jk,jx,zkv ha hlt,ha.some hlt,hlt,jW];try rfl)|refine Wb ?_|fail
  refine zc9 rfl (fun hq=>?_) (fun hq=>?_)
  ·rw [Bool.not_eq_true'] at hq
   refine Wk ?_
   rw [zvt hlt hq]
  ·rw [Bool.not_eq_false'] at hq
   refine Wk ?_
   exact ⟨k+1,⟨hlt,zuV hlt hk.2 hq⟩,by omega,zjB (zjA hlt (by omega))⟩
 ·have hge:=zjI hd
  refine Wk ?_
  rw [zvu h64 hge hk.2]
theorem zvw (w:DCrew):zvn (Con.con w)=(In w.tugs 0 12 && In w.pilots 0 12 && (In w.rest 0 2880 && zvm w.moves.l)):=by
 rw [zvn,show (Con.con w).moves=w.moves.l from con_ints];rfl
theorem zZe (w:DCrew) (h:Hp) (hw:Enc.ok h w):Ct jV 187 [w.v] h fun v h'=>v=.bool (zvn (Con.con w))∧h'=h:=by
 rw [zvw]
 refine zdn (fun A W=>by simp) Tryz.func187 rfl rfl (by simp) fun W0=>?_
 repeat' first|refine Wa ?_|refine zhF (fun _=>zYZ _ _ _ _) ?_|refine zhF (fun _=>zZd _ _ _ hw.2.2.2) ?_|(simp only [go_sem,jq,jj,jy,jv,jk,jx];try rfl)|refine Wb ?_|fail
theorem zvx (w:DCrew) (h:Hp) (hw:Enc.ok h w):Ct jV 195 [w.v] h fun v h'=>v=.bool (zvn (Con.con w))∧h'=h:=by
 rw [zvw]
 refine zdn (fun A W=>by simp) Tryz.func195 rfl rfl (by simp) fun W0=>?_
 repeat' first|refine Wa ?_|refine zhF (fun _=>zum _ _ _ _) ?_|refine zhF (fun _=>zun _ _) ?_|refine zhF (fun _=>zvv _ _ hw.2.2.2) ?_|(simp only [go_sem,jq,jj,jy,jv,jk,jx];try rfl)|refine Wb ?_|fail
 congr 1;rw [Bool.eq_iff_iff];simp only [In,jJ,jQ,Bool.not_eq_true',decide_eq_true_eq,decide_eq_false_iff_not,beq_iff_eq,and_assoc]
theorem zvy (x:DHarbour):zvo (Con.con x)=(zuY (Con.con x.forecast) && zva (Con.con x.chart) && zvk x.fleet.l && zvl x.regime && zvn (Con.con x.crew)):=by
 rw [zvo,show (Con.con x).fleet=x.fleet.l from zu4 _];rfl
theorem zZf (x:DHarbour) (h:Hp) (hx:Enc.ok h x):Ct jV 110 [x.v] h fun v h'=>v=.bool (zvo (Con.con x))∧h'=h:=by
 obtain ⟨o1,o2,o3,o4,o5⟩:=hx
 rw [zvy]
 refine zdn (fun A W=>by simp) Tryz.func110 rfl rfl (by simp) fun W0=>?_
 repeat' first|refine Wa ?_|refine zhF (fun _=>zY5 x.forecast _ o1) ?_|refine zhF (fun _=>zY8 x.chart _ o2) ?_|refine zhF (fun _=>zZb _ _ o3) ?_|refine zhF (fun _=>zZc x.regime _) ?_|refine zhF (fun _=>zZe x.crew _ o5) ?_|(simp only [go_sem,jq,jj,jy,jv,jk,jx];try rfl)|refine Wb ?_|fail
theorem zvz (x:DHarbour) (h:Hp) (hx:Enc.ok h x):Ct jV 115 [x.v] h fun v h'=>v=.bool (zvo (Con.con x))∧h'=h:=by
 obtain ⟨o1,o2,o3,o4,o5⟩:=hx
 rw [zvy]
 refine zdn (fun A W=>by simp) Tryz.func115 rfl rfl (by simp) fun W0=>?_
 repeat' first|refine Wa ?_|refine zhF (fun _=>zu0 x.forecast _ o1) ?_|refine zhF (fun _=>zvh x.chart _ o2) ?_|refine zhF (fun _=>zvr _ _ o3) ?_|refine zhF (fun _=>zvs x.regime _) ?_|refine zhF (fun _=>zvx x.crew _ o5) ?_|(simp only [go_sem,jq,jj,jy,jv,jk,jx];try rfl)|refine Wb ?_|fail
def zvA (x:PHarbour) (a:DCall):Bool:=decide (0≤a.ship∧a.ship < x.fleet.length∧0≤a.src∧a.src < x.chart.points.length∧0≤a.dst∧a.dst < x.chart.points.length∧a.src ≠ a.dst∧0≤a.ready∧a.ready≤2880∧a.ready≤a.due∧a.due≤2880)
def zvB (x:PHarbour) (a:DCall):Bool:=zvo x && zvA x a
theorem zvC (x:DHarbour) (a:DCall):zvA (Con.con x) a=decide (0≤a.ship∧a.ship < x.fleet.l.length∧0≤a.src∧a.src < x.chart.points.l.length∧0≤a.dst∧a.dst < x.chart.points.l.length∧a.src ≠ a.dst∧0≤a.ready∧a.ready≤2880∧a.ready≤a.due∧a.due≤2880):=by
 rw [zvA,show (Con.con x).fleet=x.fleet.l from zu4 _,show (Con.con x).chart.points=x.chart.points.l from zu2 _]
theorem zvD (x:DHarbour) (a:DCall) (h:Hp) (hx:Enc.ok h x):Ct jV 151 [x.v,a.v] h fun v h'=>v=.bool (zvA (Con.con x) a)∧h'=h:=by
 rw [zvC]
 refine zdn (fun A W=>by simp) Tryz.func151 rfl rfl (by simp) fun W0=>?_
 repeat' first|refine Wa ?_|refine zhF (fun _=>zuo _ _ _) ?_|refine zhF (fun _=>zun _ _) ?_|refine zhF (fun _=>zum _ _ _ _) ?_|(simp (maxSteps:=2000000) only [go_sem,jq,jj,jy,jv,jk,jx];try rfl)|refine Wb ?_|fail
 congr 1
 rw [Bool.eq_iff_iff]
 simp only [jJ,decide_eq_true_eq,Bool.not_eq_true',beq_eq_false_iff_ne,bne_iff_ne,ne_eq,and_assoc]
 skip
theorem zvE (x:DHarbour) (a:DCall) (h:Hp) (hx:Enc.ok h x) (ha:Enc.ok h a):Ct jV 97 [x.v,a.v] h fun v h'=>v=.bool (zvB (Con.con x) (Con.con a))∧h'=h:=by
 rw [zvB,show (Con.con a:DCall)=a from rfl]
 refine zdn (fun A W=>by simp) Tryz.func97 rfl rfl (by simp) fun W0=>?_
 repeat' first|refine Wa ?_|refine zhF (fun _=>zvz x _ hx) ?_|refine zhF (fun _=>zvD x a _ hx) ?_|(simp (maxSteps:=2000000) only [go_sem,jq,jj,jy,jv,jk,jx];try rfl)|refine Wb ?_|fail
theorem zZg (x:DHarbour) (a:DCall) (h:Hp) (hx:Enc.ok h x) (ha:Enc.ok h a):Ct jV 93 [x.v,a.v] h fun v h'=>v=.bool (zvB (Con.con x) (Con.con a))∧h'=h:=by
 have l1:=hx.2.1.1.max
 have l2:=hx.2.2.1.max
 have w1:IntKind.i64.wrap ((x.chart.points.l.length:Int) - 1)=(x.chart.points.l.length:Int) - 1:=zjz (by omega)
 have w2:IntKind.i64.wrap ((x.fleet.l.length:Int) - 1)=(x.fleet.l.length:Int) - 1:=zjz (by omega)
 rw [zvB,show (Con.con a:DCall)=a from rfl,zvC]
 refine zdn (fun A W=>by simp) Tryz.func93 rfl rfl (by simp) fun W0=>?_
 repeat' first|refine Wa ?_|refine zhF (fun _=>zZf x _ hx) ?_|refine zhF (fun _=>zYZ _ _ _ _) ?_|(simp (maxSteps:=2000000) only [go_sem,jq,jj,jy,jv,jk,jx,w1,w2];try rfl)|refine Wb ?_|fail
 congr 1
 rw [Bool.eq_iff_iff]
 simp only [jJ,decide_eq_true_eq,Bool.not_eq_true',beq_eq_false_iff_ne,bne_iff_ne,ne_eq,and_assoc]
 constructor <;> intro hh <;> refine ⟨hh.1,?_⟩ <;> omega
def dC:DCall:=⟨0,0,0,0,0⟩
theorem cget {l:List DCall} {i:Nat} (hi:i < l.length):l.getD i dC=l[i]:=by simp [List.getD_eq_getElem?_getD,hi]
def zJI (l:List DCall) (i:Nat):Bool:=decide (∀ j,j < i→(l.getD j dC).ship ≠ (l.getD i dC).ship)
def clOk (x:PHarbour) (l:List DCall) (i:Nat):Bool:=zvA x (l.getD i dC) && zJI l i
def zJJ (x:PHarbour) (l:List DCall):Bool:=zvo x && decide (l.length≤6) && decide (∀ i,i < l.length→clOk x l i=true)
theorem zJK (s:Sl DCall):Con.con s=s.l:=List.map_id _
theorem zZh (x:DHarbour) (a:Sl DCall) (h:Hp) (hx:Enc.ok h x) (ha:Enc.ok h a):Ct jV 64 [x.v,a.val] h fun v h'=>v=.bool (zJJ (Con.con x) (Con.con a))∧h'=h:=by
 have ha:a.Ok h:=ha
 have hl:=ha.max
 rw [zJJ,zJK]
 refine zdn (fun A W=>by simp) Tryz.func64 rfl rfl (by simp) fun W0=>?_
 repeat' first|refine Wa ?_|refine zhF (fun _=>zZf x _ hx) ?_|(simp only [go_sem,jq,jj,jy,jv,jk,jx];try rfl)|refine Wb ?_|fail
 refine zc9 rfl (fun hc=>?_) (fun hc=>?_)
 ·refine Wk ?_
  congr 1
  rcases (jQ _ _).mp hc with h1|h1
  ·rw [Bool.not_eq_true'] at h1;rw [h1];rfl
  ·rw [decide_eq_false (p:=a.l.length≤6) (by have:=of_decide_eq_true h1;omega),Bool.and_false];rfl
 obtain ⟨hH,h6⟩:=Bool.or_eq_false_iff.1 hc
 rw [Bool.not_eq_false'] at hH
 rw [hH,decide_eq_true (show a.l.length≤6 by have:=of_decide_eq_false h6;omega),Bool.and_self,Bool.true_and]
 refine Wk ?_
 refine zde (ι:=Nat) (fun k=>⟨[(1,true,.c (.v a.val)),(2,true,.c (.p 0 0)),(17,true,.c (.v a.val)),(18,true,.c (.v (.int .i64 a.l.length))),(19,true,.c (.v (.int .i64 k)))],[(0,.box 62 [.v (.int .i64 x.forecast.tide.mean),.v x.forecast.tide.parts.val,.v x.forecast.surges.val,.v x.chart.points.val,.v x.chart.segments.val,.v x.fleet.val,.v (.int .i64 x.regime.gap),.v (.bool x.regime.noMeet),.v (.int .i64 x.crew.tugs),.v (.int .i64 x.crew.pilots),.v (.int .i64 x.crew.rest),.v x.crew.moves.val])],h,1⟩) (fun k=>k≤a.l.length∧∀ i,i < k→clOk (Con.con x) a.l i=true) (fun k=>a.l.length - k) 0 ⟨Nat.zero_le _,zvf ⟩ ?_ ?_
 ·refine Evs ?_
  exact Gk
 intro k hk
 refine Wk ?_
 refine zc9 rfl (fun hd=>?_) (fun hd=>?_)
 ·have hlt:=zjH hd
  have hge:=cget hlt
  repeat' first|refine Wa ?_|refine zhF (fun _=>zZg x _ _ hx (ha.el hlt)) ?_|(simp only [go_sem,jq,jj,jy,jv,jk,jx,zE7 ha hlt,ha.some hlt,hlt,jW];try rfl)|refine Wb ?_|fail
  refine zc9 rfl (fun hq=>?_) (fun hq=>?_)
  ·rw [Bool.not_eq_true'] at hq
   rw [zvB,show (Con.con a.l[k]:DCall)=a.l[k] from rfl,hH,Bool.true_and] at hq
   refine Wk ?_
   rw [zvc  hlt (by rw [clOk,hge,hq,Bool.false_and])]
  ·rw [Bool.not_eq_false'] at hq
   rw [zvB,show (Con.con a.l[k]:DCall)=a.l[k] from rfl,hH,Bool.true_and] at hq
   have hgo:=Sl.to_ok ha k
   have hlt0:=Sl.to_len hk.1
   have hcap:=ha.1
   refine Wk ?_
   refine ⟨by omega,?_⟩
   simp only [Int.toNat_zero,Nat.sub_zero,Nat.zero_mul,zmA,zmB,ite_self]
   rw [zmC hk.1]
   refine Wk ?_
   refine zde (ι:=Nat) (fun j=>⟨[(1,true,.c (.v a.val)),(2,true,.c (.p 0 0)),(6,true,.c (.p 1 0)),(17,true,.c (.v a.val)),(18,true,.c (.v (.int .i64 a.l.length))),(19,true,.c (.v (.int .i64 k))),(30,true,.c (.v (a.to k).val)),(31,true,.c (.v (.int .i64 k))),(32,true,.c (.v (.int .i64 j)))],[(0,.box 62 [.v (.int .i64 x.forecast.tide.mean),.v x.forecast.tide.parts.val,.v x.forecast.surges.val,.v x.chart.points.val,.v x.chart.segments.val,.v x.fleet.val,.v (.int .i64 x.regime.gap),.v (.bool x.regime.noMeet),.v (.int .i64 x.crew.tugs),.v (.int .i64 x.crew.pilots),.v (.int .i64 x.crew.rest),.v x.crew.moves.val]),(1,.box 79 [.v (.int .i64 a.l[k].ship),.v (.int .i64 a.l[k].src),.v (.int .i64 a.l[k].dst),.v (.int .i64 a.l[k].ready),.v (.int .i64 a.l[k].due)])],h,2⟩) (fun j=>j≤k∧∀ i,i < j→(a.l.getD i dC).ship ≠ a.l[k].ship) (fun j=>k - j) 0 ⟨Nat.zero_le _,fun i hi=>absurd hi (Nat.not_lt_zero _)⟩ ?_ ?_
   ·refine Evs ?_
    exact Gk
   intro j hj
   refine Wk ?_
   refine zc9 rfl (fun hq2=>?_) (fun hq2=>?_)
   ·have hltj:=zjH hq2
    have hltj':j < (a.to k).l.length:=by omega
    have hltj2:j < a.l.length:=by omega
    have hje:=Sl.to_get hltj' hltj2
    repeat' first|refine Wa ?_|(simp only [go_sem,jq,jj,jy,jv,jk,jx,zE7 hgo hltj',hgo.some hltj',hltj',hltj,jW,hje];try rfl)|refine Wb ?_|fail
    refine zc9 rfl (fun hq3=>?_) (fun hq3=>?_)
    ·have hq3:=eq_of_beq hq3
     refine Wk ?_
     rw [zvc  hlt ?_]
     rw [clOk,hge,hq,Bool.true_and,zJI]
     refine decide_eq_false fun hh=>hh j hltj ?_
     rw [cget hltj2,hge];omega
    ·have hq3:=beq_eq_false_iff_ne.1 hq3
     refine Wk ?_
     refine ⟨j+1,⟨hltj,fun i hi=>?_⟩,by omega,zjB (zjA hltj (by omega))⟩
     rcases Nat.lt_succ_iff_lt_or_eq.1 hi with hi|rfl
     ·exact hj.2 i hi
     ·rw [cget hltj2];omega
   ·have hgej:=zjI hq2
    refine Wk ?_
    refine ⟨k+1,⟨hlt,zvd  hk.2 ?_⟩,by omega,zjB (zjA hlt (by omega))⟩
    rw [clOk,hge,hq,Bool.true_and,zJI]
    refine decide_eq_true fun i hi=>?_
    rw [hge];exact hj.2 i (by omega)
 ·have hge:=zjI hd
  refine Wk ?_
  rw [zve  hge hk.2]
theorem zJL (x:DHarbour) (a:Sl DCall) (h:Hp) (hx:Enc.ok h x) (ha:Enc.ok h a):Ct jV 73 [x.v,a.val] h fun v h'=>v=.bool (zJJ (Con.con x) (Con.con a))∧h'=h:=by
 have ha:a.Ok h:=ha
 have hl:=ha.max
 rw [zJJ,zJK]
 refine zdn (fun A W=>by simp) Tryz.func73 rfl rfl (by simp) fun W0=>?_
 repeat' first|refine Wa ?_|refine zhF (fun _=>zvz x _ hx) ?_|(simp only [go_sem,jq,jj,jy,jv,jk,jx];try rfl)|refine Wb ?_|fail
 refine zc9 rfl (fun hc=>?_) (fun hc=>?_)
 ·refine Wk ?_
  congr 1
  rcases (jQ _ _).mp hc with h1|h1
  ·rw [Bool.not_eq_true'] at h1;rw [h1];rfl
  ·rw [decide_eq_false (p:=a.l.length≤6) (by have:=of_decide_eq_true h1;omega),Bool.and_false];rfl
 obtain ⟨hH,h6⟩:=Bool.or_eq_false_iff.1 hc
 rw [Bool.not_eq_false'] at hH
 rw [hH,decide_eq_true (show a.l.length≤6 by have:=of_decide_eq_false h6;omega),Bool.and_self,Bool.true_and]
 refine Wk ?_
 refine zde (ι:=Nat) (fun k=>⟨[(1,true,.c (.v a.val)),(2,true,.c (.p 0 0)),(17,true,.c (.v a.val)),(18,true,.c (.v (.int .i64 a.l.length))),(19,true,.c (.v (.int .i64 k)))],[(0,.box 62 [.v (.int .i64 x.forecast.tide.mean),.v x.forecast.tide.parts.val,.v x.forecast.surges.val,.v x.chart.points.val,.v x.chart.segments.val,.v x.fleet.val,.v (.int .i64 x.regime.gap),.v (.bool x.regime.noMeet),.v (.int .i64 x.crew.tugs),.v (.int .i64 x.crew.pilots),.v (.int .i64 x.crew.rest),.v x.crew.moves.val])],h,1⟩) (fun k=>k≤a.l.length∧∀ i,i < k→clOk (Con.con x) a.l i=true) (fun k=>a.l.length - k) 0 ⟨Nat.zero_le _,zvf ⟩ ?_ ?_
 ·refine Evs ?_
  exact Gk
 intro k hk
 refine Wk ?_
 refine zc9 rfl (fun hd=>?_) (fun hd=>?_)
 ·have hlt:=zjH hd
  have hge:=cget hlt
  repeat' first|refine Wa ?_|refine zhF (fun _=>zvD x _ _ hx) ?_|(simp only [go_sem,jq,jj,jy,jv,jk,jx,zE7 ha hlt,ha.some hlt,hlt,jW];try rfl)|refine Wb ?_|fail
  refine zc9 rfl (fun hq=>?_) (fun hq=>?_)
  ·rw [Bool.not_eq_true'] at hq
   skip
   refine Wk ?_
   rw [zvc  hlt (by rw [clOk,hge,hq,Bool.false_and])]
  ·rw [Bool.not_eq_false'] at hq
   skip
   have hgo:=Sl.to_ok ha k
   have hlt0:=Sl.to_len hk.1
   have hcap:=ha.1
   refine Wk ?_
   refine ⟨by omega,?_⟩
   simp only [Int.toNat_zero,Nat.sub_zero,Nat.zero_mul,zmA,zmB,ite_self]
   rw [zmC hk.1]
   refine Wk ?_
   refine zde (ι:=Nat) (fun j=>⟨[(1,true,.c (.v a.val)),(2,true,.c (.p 0 0)),(6,true,.c (.p 1 0)),(17,true,.c (.v a.val)),(18,true,.c (.v (.int .i64 a.l.length))),(19,true,.c (.v (.int .i64 k))),(30,true,.c (.v (a.to k).val)),(31,true,.c (.v (.int .i64 k))),(32,true,.c (.v (.int .i64 j)))],[(0,.box 62 [.v (.int .i64 x.forecast.tide.mean),.v x.forecast.tide.parts.val,.v x.forecast.surges.val,.v x.chart.points.val,.v x.chart.segments.val,.v x.fleet.val,.v (.int .i64 x.regime.gap),.v (.bool x.regime.noMeet),.v (.int .i64 x.crew.tugs),.v (.int .i64 x.crew.pilots),.v (.int .i64 x.crew.rest),.v x.crew.moves.val]),(1,.box 79 [.v (.int .i64 a.l[k].ship),.v (.int .i64 a.l[k].src),.v (.int .i64 a.l[k].dst),.v (.int .i64 a.l[k].ready),.v (.int .i64 a.l[k].due)])],h,2⟩) (fun j=>j≤k∧∀ i,i < j→(a.l.getD i dC).ship ≠ a.l[k].ship) (fun j=>k - j) 0 ⟨Nat.zero_le _,fun i hi=>absurd hi (Nat.not_lt_zero _)⟩ ?_ ?_
   ·refine Evs ?_
    exact Gk
   intro j hj
   refine Wk ?_
   refine zc9 rfl (fun hq2=>?_) (fun hq2=>?_)
   ·have hltj:=zjH hq2
    have hltj':j < (a.to k).l.length:=by omega
    have hltj2:j < a.l.length:=by omega
    have hje:=Sl.to_get hltj' hltj2
    repeat' first|refine Wa ?_|(simp only [go_sem,jq,jj,jy,jv,jk,jx,zE7 hgo hltj',hgo.some hltj',hltj',hltj,jW,hje];try rfl)|refine Wb ?_|fail
    refine zc9 rfl (fun hq3=>?_) (fun hq3=>?_)
    ·have hq3:=eq_of_beq hq3
     refine Wk ?_
     rw [zvc  hlt ?_]
     rw [clOk,hge,hq,Bool.true_and,zJI]
     refine decide_eq_false fun hh=>hh j hltj ?_
     rw [cget hltj2,hge];omega
    ·have hq3:=beq_eq_false_iff_ne.1 hq3
     refine Wk ?_
     refine ⟨j+1,⟨hltj,fun i hi=>?_⟩,by omega,zjB (zjA hltj (by omega))⟩
     rcases Nat.lt_succ_iff_lt_or_eq.1 hi with hi|rfl
     ·exact hj.2 i hi
     ·rw [cget hltj2];omega
   ·have hgej:=zjI hq2
    refine Wk ?_
    refine ⟨k+1,⟨hlt,zvd  hk.2 ?_⟩,by omega,zjB (zjA hlt (by omega))⟩
    rw [clOk,hge,hq,Bool.true_and,zJI]
    refine decide_eq_true fun i hi=>?_
    rw [hge];exact hj.2 i (by omega)
 ·have hge:=zjI hd
  refine Wk ?_
  rw [zve  hge hk.2]
def zvF (c:PChart) (p:DPassage):Int × Int:=if p.toward then ((c.segments.getD p.seg.toNat dG).a,(c.segments.getD p.seg.toNat dG).b) else ((c.segments.getD p.seg.toNat dG).b,(c.segments.getD p.seg.toNat dG).a)
def zvG (s:DShip) (g:DSegment):Int:=if s.slow then IntKind.i64.wrap (2 * g.minutes) else g.minutes
def zvH (c:PChart) (l:List DShip) (p:DPassage):Bool:=decide (0≤p.ship∧p.ship < l.length∧0≤p.seg∧p.seg < c.segments.length∧0≤p.start∧p.start≤2880∧p.fin≤2880) && decide (p.fin=IntKind.i64.wrap (p.start+zvG (l.getD p.ship.toNat dH) (c.segments.getD p.seg.toNat dG)))
def zvI (c:PChart) (l:List DShip) (p:DPassage):Bool:=zva c && zvk l && zvH c l p
theorem zvJ (c:DChart):(Con.con c).segments=c.segments.l:=zu3 _
theorem zvK (c:DChart) (p:DPassage) (hs:p.seg.toNat < c.segments.l.length):zvF (Con.con c) p=if p.toward then (c.segments.l[p.seg.toNat].a,c.segments.l[p.seg.toNat].b) else (c.segments.l[p.seg.toNat].b,c.segments.l[p.seg.toNat].a):=by
 rw [zvF,zvJ,gget hs]
theorem zZi (c:DChart) (p:DPassage) (h:Hp) (hc:Enc.ok h c) (h0:0≤p.seg) (h1:p.seg < c.segments.l.length):Ct jV 301 [c.v,p.v] h fun v h'=>v=.tuple #[.int .i64 (zvF (Con.con c) p).1,.int .i64 (zvF (Con.con c) p).2]∧h'=h:=by
 have hg:=hc.2
 have hs:p.seg.toNat < c.segments.l.length:=by omega
 rw [zvK c p hs]
 refine zdn (fun A W=>by simp) Tryz.func301 rfl rfl (by simp) fun W0=>?_
 repeat' first|refine Wa ?_|(simp (maxSteps:=2000000) only [go_sem,jq,jj,jy,jv,jk,jx,zkU hg hs,hg.some hs,hs,h0,h1];try rfl)|refine Wb ?_|fail
 refine zc9 rfl (fun hq=>?_) (fun hq=>?_)
 ·refine Wk ?_
  refine zi8 rfl (by kernel_rfl) ?_
  refine Evs ?_
  refine Wk ?_
  rw [hq];rfl
 ·refine Wk ?_
  refine zi8 rfl (by kernel_rfl) ?_
  refine Evs ?_
  refine Wk ?_
  rw [hq];rfl
theorem zvL (c:DChart) (p:DPassage) (h:Hp) (hc:Enc.ok h c) (h0:0≤p.seg) (h1:p.seg < c.segments.l.length):Ct jV 287 [p.v,c.v] h fun v h'=>v=.tuple #[.int .i64 (zvF (Con.con c) p).1,.int .i64 (zvF (Con.con c) p).2]∧h'=h:=by
 have hg:=hc.2
 have hs:p.seg.toNat < c.segments.l.length:=by omega
 rw [zvK c p hs]
 refine zdn (fun A W=>by simp) Tryz.func287 rfl rfl (by simp) fun W0=>?_
 repeat' first|refine Wa ?_|(simp (maxSteps:=2000000) only [go_sem,jq,jj,jy,jv,jk,jx,zkU hg hs,hg.some hs,hs,h0,h1];try rfl)|refine Wb ?_|fail
 refine zc9 rfl (fun hq=>?_) (fun hq=>?_)
 ·refine Wk ?_
  refine zi8 rfl (by kernel_rfl) ?_
  refine Evs ?_
  refine Wk ?_
  rw [hq];rfl
 ·refine Wk ?_
  refine zi8 rfl (by kernel_rfl) ?_
  refine Evs ?_
  refine Wk ?_
  rw [hq];rfl
theorem zZj (g:DSegment) (s:DShip) (h:Hp):Ct jV 175 [g.v,s.v] h fun v h'=>v=.int .i64 (zvG s g)∧h'=h:=by
 refine zdn (fun A W=>by simp) Tryz.func175 rfl rfl (by simp) fun W0=>?_
 refine Wk ?_
 refine zc9 rfl (fun hq=>?_) (fun hq=>?_)
 ·refine Wk ?_
  rw [zvG,if_pos hq]
 ·refine Wk ?_
  rw [zvG,if_neg (by rw [hq];exact Bool.false_ne_true)]
theorem zvM (s:DShip) (g:DSegment) (h:Hp):Ct jV 244 [s.v,g.v] h fun v h'=>v=.int .i64 (zvG s g)∧h'=h:=by
 refine zdn (fun A W=>by simp) Tryz.func244 rfl rfl (by simp) fun W0=>?_
 refine Wk ?_
 refine zc9 rfl (fun hq=>?_) (fun hq=>?_)
 ·refine Wk ?_
  rw [zvG,if_pos hq]
 ·refine Wk ?_
  rw [zvG,if_neg (by rw [hq];exact Bool.false_ne_true)]
theorem zZk (c:DChart) (k:Int) (s:DShip) (h:Hp) (hc:Enc.ok h c) (hs:Enc.ok h s):Ct jV 295 [c.v,.int .i64 k,s.v] h fun v h'=>v=.int .i64 (if zva (Con.con c)=true∧zvj s=true∧0≤k∧k < c.segments.l.length then zvG s (c.segments.l.getD k.toNat dG) else 0)∧h'=h:=by
 have hg:=hc.2
 have hl:=hg.max
 have hw:IntKind.i64.wrap ((c.segments.l.length:Int) - 1)=(c.segments.l.length:Int) - 1:=zjz (by omega)
 refine zdn (fun A W=>by simp) Tryz.func295 rfl rfl (by simp) fun W0=>?_
 repeat' first|refine Wa ?_|refine zhF (fun _=>zY8 c _ hc) ?_|refine zhF (fun _=>zZa s _ hs) ?_|refine zhF (fun _=>zYZ _ _ _ _) ?_|(simp (maxSteps:=2000000) only [go_sem,jq,jj,jy,jv,jk,jx,hw];try rfl)|refine Wb ?_|fail
 refine zc9 rfl (fun hq=>?_) (fun hq=>?_)
 ·refine Wk ?_
  simp only [jQ,Bool.not_eq_true',Bool.and_eq_false_iff,decide_eq_false_iff_not] at hq
  rw [if_neg]
  rintro ⟨h1,h2,h3,h4⟩
  rw [h1,h2] at hq
  rcases hq with (hq|hq)|hq
  ·cases hq
  ·cases hq
  ·omega
 ·simp only [jp,Bool.not_eq_false',jJ,decide_eq_true_eq] at hq
  obtain ⟨⟨h1,h2⟩,h3,h4⟩:=hq
  have hs':k.toNat < c.segments.l.length:=by omega
  have h4':k < (c.segments.l.length:Int):=by omega
  rw [if_pos ⟨h1,h2,h3,h4'⟩,gget hs']
  refine Wk ?_
  refine ziV rfl ?_
  refine zi3 [0,1,2,3,4,5] rfl (by kernel_rfl) ?_
  simp (maxSteps:=2000000) only [go_sem,jq,jj,jy,jv,jk,jx,zkU hg hs',hg.some hs',hs',h3,h4']
  refine ziT [6] (by kernel_rfl) (by kernel_rfl) ?_
  simp (maxSteps:=2000000) only [go_sem,jq,jj,jy,jv,jk,jx,zkU hg hs',hg.some hs',hs',h3,h4']
  refine zhF (fun _=>zZj _ _ _) ?_
  simp (maxSteps:=2000000) only [go_sem,jq,jj,jy,jv,jk,jx,zkU hg hs',hg.some hs',hs',h3,h4']
  refine zi3 [7] rfl (by kernel_rfl) ?_
  refine Evs ?_
  refine ziU (by kernel_rfl) ?_
  exact Wk0
theorem zvN (c:DChart) (l:List DShip) (p:DPassage):zvH (Con.con c) l p=(decide (0≤p.ship∧p.ship < l.length∧0≤p.seg∧p.seg < c.segments.l.length∧0≤p.start∧p.start≤2880∧p.fin≤2880) && decide (p.fin=IntKind.i64.wrap (p.start+zvG (l.getD p.ship.toNat dH) (c.segments.l.getD p.seg.toNat dG)))):=by
 rw [zvH,zvJ]
theorem zvO (c:DChart) (a:Sl DShip) (p:DPassage) (h:Hp) (hc:Enc.ok h c) (ha:a.Ok h):Ct jV 306 [c.v,a.val,p.v] h fun v h'=>v=.bool (zvH (Con.con c) a.l p)∧h'=h:=by
 have hg:=hc.2
 rw [zvN]
 refine zdn (fun A W=>by simp) Tryz.func306 rfl rfl (by simp) fun W0=>?_
 repeat' first|refine Wa ?_|refine zhF (fun _=>zuo _ _ _) ?_|refine zhF (fun _=>zun _ _) ?_|(simp (maxSteps:=2000000) only [go_sem,jq,jj,jy,jv,jk,jx];try rfl)|refine Wb ?_|fail
 refine zc9 rfl (fun hq=>?_) (fun hq=>?_)
 ·refine Wk ?_
  simp only [jQ,Bool.not_eq_true',Bool.and_eq_false_iff,decide_eq_false_iff_not,decide_eq_true_eq] at hq
  rw [decide_eq_false (by omega),Bool.false_and]
 ·simp only [jp,Bool.not_eq_false',jJ,decide_eq_true_eq,decide_eq_false_iff_not] at hq
  have h1:0≤p.ship∧p.ship < (a.l.length:Int)∧0≤p.seg∧p.seg < (c.segments.l.length:Int)∧0≤p.start∧p.start≤2880∧p.fin≤2880:=by omega
  have hs':p.seg.toNat < c.segments.l.length:=by omega
  have hp':p.ship.toNat < a.l.length:=by omega
  rw [decide_eq_true h1,Bool.true_and,gget hs',hget hp']
  refine Wk ?_
  refine ziV rfl ?_
  refine zi3 [0,1,2,3,4,5,6,7,8,9,10,11,12,13,14] rfl (by kernel_rfl) ?_
  simp (maxSteps:=2000000) only [go_sem,jq,jj,jy,jv,jk,jx,zkU hg hs',hg.some hs',hs',h1.2.2.1,h1.2.2.2.1,zk0 ha hp',ha.some hp',hp',h1.1,h1.2.1]
  refine ziT [15] (by kernel_rfl) (by kernel_rfl) ?_
  simp (maxSteps:=2000000) only [go_sem,jq,jj,jy,jv,jk,jx,zkU hg hs',hg.some hs',hs',h1.2.2.1,h1.2.2.2.1,zk0 ha hp',ha.some hp',hp',h1.1,h1.2.1]
  refine zhF (fun _=>zvM _ _ _) ?_
  simp (maxSteps:=2000000) only [go_sem,jq,jj,jy,jv,jk,jx,zkU hg hs',hg.some hs',hs',h1.2.2.1,h1.2.2.2.1,zk0 ha hp',ha.some hp',hp',h1.1,h1.2.1]
  refine zi3 [16,17,18] rfl (by kernel_rfl) ?_
  refine Evs ?_
  refine ziU (by kernel_rfl) ?_
  exact Wk0
theorem zvP (c:DChart) (a:Sl DShip) (p:DPassage) (h:Hp) (hc:Enc.ok h c) (ha:a.Ok h):Ct jV 288 [c.v,a.val,p.v] h fun v h'=>v=.bool (zvI (Con.con c) a.l p)∧h'=h:=by
 rw [zvI]
 refine zdn (fun A W=>by simp) Tryz.func288 rfl rfl (by simp) fun W0=>?_
 repeat' first|refine Wa ?_|refine zhF (fun _=>zvh c _ hc) ?_|refine zhF (fun _=>zvr _ _ ha) ?_|refine zhF (fun _=>zvO c a p _ hc ha) ?_|(simp (maxSteps:=2000000) only [go_sem,jq,jj,jy,jv,jk,jx];try rfl)|refine Wb ?_|fail
theorem zZl (c:DChart) (a:Sl DShip) (p:DPassage) (h:Hp) (hc:Enc.ok h c) (ha:a.Ok h):Ct jV 300 [c.v,a.val,p.v] h fun v h'=>v=.bool (zvI (Con.con c) a.l p)∧h'=h:=by
 have hg:=hc.2
 have hl:=hg.max
 have hl2:=ha.max
 have hw:IntKind.i64.wrap ((c.segments.l.length:Int) - 1)=(c.segments.l.length:Int) - 1:=zjz (by omega)
 have hw2:IntKind.i64.wrap ((a.l.length:Int) - 1)=(a.l.length:Int) - 1:=zjz (by omega)
 rw [zvI,zvN]
 refine zdn (fun A W=>by simp) Tryz.func300 rfl rfl (by simp) fun W0=>?_
 repeat' first|refine Wa ?_|refine zhF (fun _=>zY8 c _ hc) ?_|refine zhF (fun _=>zZb _ _ ha) ?_|refine zhF (fun _=>zYZ _ _ _ _) ?_|(simp (maxSteps:=2000000) only [go_sem,jq,jj,jy,jv,jk,jx,hw,hw2];try rfl)|refine Wb ?_|fail
 refine zc9 rfl (fun hq=>?_) (fun hq=>?_)
 ·refine Wk ?_
  congr 1
  simp only [jQ,Bool.not_eq_true',Bool.and_eq_false_iff,decide_eq_false_iff_not] at hq
  rcases hq with (((hq|hq)|hq)|hq)|hq
  ·rw [hq];rfl
  ·rw [hq,Bool.and_false];rfl
  ·rw [decide_eq_false (p:=0≤p.ship∧_) (by omega),Bool.false_and,Bool.and_false]
  ·rw [decide_eq_false (p:=0≤p.ship∧_) (by omega),Bool.false_and,Bool.and_false]
  ·rw [decide_eq_false (p:=0≤p.ship∧_) (by omega),Bool.false_and,Bool.and_false]
 ·simp only [jp,Bool.not_eq_false',jJ,decide_eq_true_eq] at hq
  obtain ⟨⟨⟨⟨hC,hF⟩,h1,h2⟩,h3,h4⟩,h5,h6⟩:=hq
  have h2':p.ship < (a.l.length:Int):=by omega
  have h4':p.seg < (c.segments.l.length:Int):=by omega
  have hs':p.seg.toNat < c.segments.l.length:=by omega
  have hp':p.ship.toNat < a.l.length:=by omega
  have hsh:zvj a.l[p.ship.toNat]=true:=by
   have h9:=of_decide_eq_true (Bool.and_eq_true_iff.1 hF).2 p.ship.toNat hp'
   rw [shOk,hget hp'] at h9
   exact (Bool.and_eq_true_iff.1 h9).1
  rw [hC,hF,Bool.and_self,Bool.true_and,gget hs',hget hp']
  refine Wk ?_
  refine ziV rfl ?_
  refine zi3 [0,1,2,3,4,5,6,7,8,9,10,11] rfl (by kernel_rfl) ?_
  simp (maxSteps:=2000000) only [go_sem,jq,jj,jy,jv,jk,jx,zk0 ha hp',ha.some hp',hp',h1,h2']
  refine ziT [12] (by kernel_rfl) (by kernel_rfl) ?_
  simp (maxSteps:=2000000) only [go_sem,jq,jj,jy,jv,jk,jx,zk0 ha hp',ha.some hp',hp',h1,h2']
  refine zhF (fun _=>zZk c _ _ _ hc (ha.el hp')) ?_
  simp (maxSteps:=2000000) only [go_sem,jq,jj,jy,jv,jk,jx,zk0 ha hp',ha.some hp',hp',h1,h2']
  refine zi3 [13,14,15,16,17,18,19,20] rfl (by kernel_rfl) ?_
  refine Evs ?_
  refine ziU (by kernel_rfl) ?_
  refine Wk ?_
  rw [if_pos ⟨hC,hsh,h3,h4'⟩,gget hs']
  congr 1
  rw [Bool.eq_iff_iff]
  simp only [jJ,decide_eq_true_eq,beq_iff_eq]
  constructor <;> intro hh <;> omega
end Go.Proofs.YtbkaaakphpbmiaaGreat
