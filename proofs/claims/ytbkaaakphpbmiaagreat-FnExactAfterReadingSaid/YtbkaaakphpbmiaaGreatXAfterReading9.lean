/- What functions of the given program compute, as contracts. -/
import Derived.Test.YtbkaaakphpbmiaaGreatSAfterReadingx7
import Derived.Test.YtbkaaakphpbmiaaGreatXAfterReading8
set_option linter.unusedVariables false
set_option linter.unusedSimpArgs false
set_option maxRecDepth 4000
open Nat renaming reduceAdd → jq, reduceMul → jj, reduceBEq → jy, reduceLeDiff → jv, reduceLT → jk, reduceEqDiff → jx
open Bool renaming or_eq_false_iff → jp, or_eq_true → jQ, and_eq_true → jJ
open Int renaming toNat_natCast → jW, natCast_nonneg → jY
open Go.Proofs.Tryz renaming prog → jV
namespace Go.Proofs.YtbkaaakphpbmiaaGreat
open Go Go.SL
set_option maxHeartbeats 1000000
def In (n lo hi:Int):Bool:=decide (lo≤n) && decide (n≤hi)
def zuG (n:Int):Bool:=In n 4 2880 && (Int.tmod n 4 == 0)
theorem zuH (n:Int) (h:Hp):Ct jV 290 [.int .i64 n] h fun v h'=>v=.bool (zuG n)∧h'=h:=by
 refine zdn (fun A W=>by simp) Tryz.func290 rfl rfl (by simp) fun W0=>?_
 repeat' first|refine Wa ?_|refine zhF (fun _=>zum _ _ _ _) ?_|(simp only [go_sem,jq,jj,jy,jv,jk,jx];try rfl)|refine Wb ?_|fail
 refine ⟨fun _ _=>by decide,?_⟩
 exact Wk0
def zuI (p:DPart):Bool:=In p.amp 0 1000 && zuG p.period && In p.phase 0 (p.period - 1)
theorem zY1 (p:DPart) (h:Hp) (hp:Enc.ok h p):Ct jV 276 [p.v] h fun v h'=>v=.bool (zuI p)∧h'=h:=by
 have hw:=w64 (p.period - 1)
 refine zdn (fun A W=>by simp) Tryz.func276 rfl rfl (by simp) fun W0=>?_
 repeat' first|refine Wa ?_|refine zhF (fun _=>zYZ _ _ _ _) ?_|(simp only [go_sem,jq,jj,jy,jv,jk,jx];try rfl)|refine Wb ?_|fail
 refine ⟨fun _ _ _ _=>by decide,?_⟩
 repeat' first|refine Wa ?_|refine zhF (fun _=>zYZ _ _ _ _) ?_|(simp only [go_sem,jq,jj,jy,jv,jk,jx];try rfl)|refine Wb ?_|fail
 congr 1;rw [Bool.eq_iff_iff];simp only [zuI,zuG,In,jJ,jQ,Bool.not_eq_true',decide_eq_true_eq,decide_eq_false_iff_not,beq_iff_eq,and_assoc]
 rw [hw]
 constructor <;> intro h <;> omega
theorem zuJ (p:DPart) (h:Hp) (hp:Enc.ok h p):Ct jV 266 [p.v] h fun v h'=>v=.bool (zuI p)∧h'=h:=by
 have hw:=w64 (p.period - 1)
 refine zdn (fun A W=>by simp) Tryz.func266 rfl rfl (by simp) fun W0=>?_
 repeat' first|refine Wa ?_|refine zhF (fun _=>zum _ _ _ _) ?_|refine zhF (fun _=>zuH _ _) ?_|(simp only [go_sem,jq,jj,jy,jv,jk,jx];try rfl)|refine Wb ?_|fail
 congr 1;rw [Bool.eq_iff_iff];simp only [zuI,zuG,In,jJ,jQ,Bool.not_eq_true',decide_eq_true_eq,decide_eq_false_iff_not,beq_iff_eq,and_assoc]
 rw [hw]
 constructor <;> intro h <;> omega
def zuK (s:DSurge):Bool:=In s.src 0 2880 && In s.low (-500) 500 && In s.high s.low 500
theorem zY2 (p:DSurge) (h:Hp):Ct jV 239 [p.v] h fun v h'=>v=.bool (zuK p)∧h'=h:=by
 refine zdn (fun A W=>by simp) Tryz.func239 rfl rfl (by simp) fun W0=>?_
 repeat' first|refine Wa ?_|refine zhF (fun _=>zYZ _ _ _ _) ?_|(simp only [go_sem,jq,jj,jy,jv,jk,jx];try rfl)|refine Wb ?_|fail
theorem zuL (p:DSurge) (h:Hp):Ct jV 221 [p.v] h fun v h'=>v=.bool (zuK p)∧h'=h:=by
 refine zdn (fun A W=>by simp) Tryz.func221 rfl rfl (by simp) fun W0=>?_
 repeat' first|refine Wa ?_|refine zhF (fun _=>zun _ _) ?_|(simp only [go_sem,jq,jj,jy,jv,jk,jx];try rfl)|refine Wb ?_|fail
 congr 1;rw [Bool.eq_iff_iff];simp only [zuK,In,jJ,jQ,Bool.not_eq_true',decide_eq_true_eq,decide_eq_false_iff_not,beq_iff_eq,and_assoc]
 omega
def zuM (s:ByteArray) (k:Nat):Bool:=!(decide (97≤zms s k) && decide (zms s k≤122)) && (decide ((k:Int)=0) || decide (zms s k < 48) || decide (57 < zms s k))
def zuN (s:ByteArray):Bool:=decide (∀ i,i < s.size→zuM s i=false) && In s.size 1 8
theorem zY3 (s:ByteArray) (h:Hp) (hs:zks s):Ct jV 240 [.string s] h fun v h'=>v=.bool (zuN s)∧h'=h:=by
 have hmax:s.size≤9223372036854775807:=hs
 refine zdn (fun A W=>by simp) Tryz.func240 rfl rfl (by simp) fun W0=>?_
 refine Wk ?_
 refine zde (ι:=Nat) (fun k=>⟨[(0,true,.c (.v (.string s))),(3,true,.c (.v (.int .i64 k)))],[],h,0⟩) (fun k=>k≤s.size∧∀ i,i < k→zuM s i=false) (fun k=>s.size - k) 0 ⟨Nat.zero_le _,fun i hi=>absurd hi (Nat.not_lt_zero _)⟩ ?_ ?_
 ·refine Evs ?_
  exact Gk
 intro k hk
 refine Wk ?_
 refine zc9 rfl (fun hd=>?_) (fun hd=>?_)
 ·have hlt:=zjH hd
  repeat' first|refine Wa ?_|(simp only [go_sem,jq,jj,jy,jv,jk,jx,hlt,jW];try rfl)|refine Wb ?_|fail
  refine zc9 rfl (fun hq=>?_) (fun hq=>?_)
  ·refine Wk ?_
   have:zuN s=false:=by
    rw [zuN,decide_eq_false (fun e=>?_),Bool.false_and]
    have:=e k hlt
    rw [show zuM s k=true from hq] at this
    cases this
   rw [this]
  ·refine Wk ?_
   refine ⟨k+1,⟨hlt,fun i hi=>?_⟩,by omega,zjB (zjA hlt (by omega))⟩
   rcases Nat.lt_succ_iff_lt_or_eq.1 hi with hi|rfl
   ·exact hk.2 i hi
   ·exact hq
 ·have hge:=zjI hd
  repeat' first|refine Wa ?_|refine zhF (fun _=>zYZ _ _ _ _) ?_|(simp only [go_sem,jq,jj,jy,jv,jk,jx];try rfl)|refine Wb ?_|fail
  have:decide (∀ i,i < s.size→zuM s i=false)=true:=decide_eq_true (fun i hi=>hk.2 i (by omega))
  rw [zuN,this,Bool.true_and,In]
theorem zuO (s:ByteArray) (h:Hp) (hs:zks s):Ct jV 253 [.string s] h fun v h'=>v=.bool (zuN s)∧h'=h:=by
 have hmax:s.size≤9223372036854775807:=hs
 refine zdn (fun A W=>by simp) Tryz.func253 rfl rfl (by simp) fun W0=>?_
 repeat' first|refine Wa ?_|refine zhF (fun _=>zum _ _ _ _) ?_|(simp only [go_sem,jq,jj,jy,jv,jk,jx];try rfl)|refine Wb ?_|fail
 refine zc9 rfl (fun hc=>?_) (fun hc=>?_)
 ·refine Wk ?_
  rw [Bool.not_eq_true'] at hc
  rw [zuN,In,hc,Bool.and_false]
 rw [Bool.not_eq_false'] at hc
 refine Wk ?_
 refine zde (ι:=Nat) (fun k=>⟨[(0,true,.c (.v (.string s))),(3,true,.c (.v (.int .i64 k)))],[],h,0⟩) (fun k=>k≤s.size∧∀ i,i < k→zuM s i=false) (fun k=>s.size - k) 0 ⟨Nat.zero_le _,fun i hi=>absurd hi (Nat.not_lt_zero _)⟩ ?_ ?_
 ·refine Evs ?_
  exact Gk
 intro k hk
 refine Wk ?_
 refine zc9 rfl (fun hd=>?_) (fun hd=>?_)
 ·have hlt:=zjH hd
  repeat' first|refine Wa ?_|(simp only [go_sem,jq,jj,jy,jv,jk,jx,hlt,jW];try rfl)|refine Wb ?_|fail
  refine zc9 rfl (fun hq=>?_) (fun hq=>?_)
  ·refine Wk ?_
   have:zuN s=false:=by
    rw [zuN,decide_eq_false (fun e=>?_),Bool.false_and]
    have:=e k hlt
    rw [show zuM s k=true from hq] at this
    cases this
   rw [this]
  ·refine Wk ?_
   refine ⟨k+1,⟨hlt,fun i hi=>?_⟩,by omega,zjB (zjA hlt (by omega))⟩
   rcases Nat.lt_succ_iff_lt_or_eq.1 hi with hi|rfl
   ·exact hk.2 i hi
   ·exact hq
 ·have hge:=zjI hd
  refine Wk ?_
  have:decide (∀ i,i < s.size→zuM s i=false)=true:=decide_eq_true (fun i hi=>hk.2 i (by omega))
  rw [zuN,this,Bool.true_and,In,hc]
def zuP {α:Type} (p:α→Bool) (l:List α):Int:=match l.findIdx? p with|some i=>i|none=>-1
theorem zuQ {α:Type} {p:α→Bool} {l:List α} {k:Nat} (hk:k < l.length) (h:p l[k]=true) (hp:∀ i (hi:i < l.length),i < k→p l[i]=false):zuP p l=k:=by
 have:l.findIdx? p=some k:=by
  rw [List.findIdx?_eq_some_iff_getElem]
  exact ⟨hk,h,fun j hj=>by rw [hp j (by omega) hj];exact Bool.false_ne_true⟩
 rw [zuP,this]
theorem zuR {α:Type} {p:α→Bool} {l:List α} (hp:∀ i (hi:i < l.length),p l[i]=false):zuP p l=-1:=by
 have:l.findIdx? p=none:=by
  rw [List.findIdx?_eq_none_iff]
  intro x hx
  obtain ⟨i,hi,rfl⟩:=List.getElem_of_mem hx
  exact hp i hi
 rw [zuP,this]
def zuS (t:PTide):Bool:=In t.mean (-1000) 1000 && decide (t.parts.length≤4) && t.parts.all zuI
theorem zuT (s:Sl DPart):Con.con s=s.l:=List.map_id _
theorem zuU {α:Type} {p:α→Bool} {l:List α} {k:Nat} (hk:k < l.length) (h:p l[k]=false):l.all p=false:=List.all_eq_false.2 ⟨l[k],List.getElem_mem hk,by rw [h];exact Bool.false_ne_true⟩
theorem zuV {α:Type} {p:α→Bool} {l:List α} {k:Nat} (hk:k < l.length) (hp:(l.take k).all p=true) (h:p l[k]=true):(l.take (k+1)).all p=true:=by
 rw [List.take_succ_eq_append_getElem hk,List.all_append,hp];simp [h]
theorem zY4 (t:DTide) (h:Hp) (ht:Enc.ok h t):Ct jV 238 [t.v] h fun v h'=>v=.bool (zuS (Con.con t))∧h'=h:=by
 have hp:=ht.2
 have hl:=hp.max
 rw [zuS,show (Con.con t).mean=t.mean from rfl,show (Con.con t).parts=t.parts.l from zuT _]
 refine zdn (fun A W=>by simp) Tryz.func238 rfl rfl (by simp) fun W0=>?_
 repeat' first|refine Wa ?_|refine zhF (fun _=>zYZ _ _ _ _) ?_|(simp only [go_sem,jq,jj,jy,jv,jk,jx];try rfl)|refine Wb ?_|fail
 refine zc9 rfl (fun hc=>?_) (fun hc=>?_)
 ·refine Wk ?_
  congr 1
  rw [jQ] at hc
  rcases hc with hc|hc
  ·rw [Bool.not_eq_true'] at hc
   rw [In,hc];rfl
  ·rw [decide_eq_false (by have:=of_decide_eq_true hc;omega),Bool.and_false,Bool.false_and]
 obtain ⟨hc1,hc2⟩:=Bool.or_eq_false_iff.1 hc
 rw [Bool.not_eq_false'] at hc1
 have hc2:=of_decide_eq_false hc2
 refine Wk ?_
 refine zde (ι:=Nat) (fun k=>⟨[(16,true,.c (.v t.parts.val)),(17,true,.c (.v (.int .i64 t.parts.l.length))),(18,true,.c (.v (.int .i64 k)))],[],h,0⟩) (fun k=>k≤t.parts.l.length∧(t.parts.l.take k).all zuI=true) (fun k=>t.parts.l.length - k) 0 ⟨Nat.zero_le _,rfl⟩ ?_ ?_
 ·refine Evs ?_
  exact Gk
 intro k hk
 refine Wk ?_
 refine zc9 rfl (fun hd=>?_) (fun hd=>?_)
 ·have hlt:=zjH hd
  repeat' first|refine Wa ?_|refine zhF (fun _=>zY1 _ _ (hp.el hlt)) ?_|(simp only [go_sem,jq,jj,jy,jv,jk,jx,zkH hp hlt,hp.some hlt,hlt,jW];try rfl)|refine Wb ?_|fail
  refine zc9 rfl (fun hq=>?_) (fun hq=>?_)
  ·rw [Bool.not_eq_true'] at hq
   refine Wk ?_
   rw [zuU hlt hq,Bool.and_false]
  ·rw [Bool.not_eq_false'] at hq
   refine Wk ?_
   exact ⟨k+1,⟨hlt,zuV hlt hk.2 hq⟩,by omega,zjB (zjA hlt (by omega))⟩
 ·have hge:=zjI hd
  refine Wk ?_
  have:=hk.2
  rw [List.take_of_length_le hge] at this
  rw [this,In,hc1,decide_eq_true (show t.parts.l.length≤4 by omega)];rfl
theorem zuW (t:DTide) (h:Hp) (ht:Enc.ok h t):Ct jV 220 [t.v] h fun v h'=>v=.bool (zuS (Con.con t))∧h'=h:=by
 have hp:=ht.2
 have hl:=hp.max
 rw [zuS,show (Con.con t).mean=t.mean from rfl,show (Con.con t).parts=t.parts.l from zuT _]
 refine zdn (fun A W=>by simp) Tryz.func220 rfl rfl (by simp) fun W0=>?_
 repeat' first|refine Wa ?_|refine zhF (fun _=>zum _ _ _ _) ?_|(simp only [go_sem,jq,jj,jy,jv,jk,jx];try rfl)|refine Wb ?_|fail
 refine zc9 rfl (fun hc=>?_) (fun hc=>?_)
 ·refine Wk ?_
  congr 1
  rw [jQ] at hc
  rcases hc with hc|hc
  ·rw [Bool.not_eq_true'] at hc
   rw [In,hc];rfl
  ·rw [decide_eq_false (by have:=of_decide_eq_true hc;omega),Bool.and_false,Bool.false_and]
 obtain ⟨hc1,hc2⟩:=Bool.or_eq_false_iff.1 hc
 rw [Bool.not_eq_false'] at hc1
 have hc2:=of_decide_eq_false hc2
 refine Wk ?_
 refine zde (ι:=Nat) (fun k=>⟨[(16,true,.c (.v t.parts.val)),(17,true,.c (.v (.int .i64 t.parts.l.length))),(18,true,.c (.v (.int .i64 k)))],[],h,0⟩) (fun k=>k≤t.parts.l.length∧(t.parts.l.take k).all zuI=true) (fun k=>t.parts.l.length - k) 0 ⟨Nat.zero_le _,rfl⟩ ?_ ?_
 ·refine Evs ?_
  exact Gk
 intro k hk
 refine Wk ?_
 refine zc9 rfl (fun hd=>?_) (fun hd=>?_)
 ·have hlt:=zjH hd
  repeat' first|refine Wa ?_|refine zhF (fun _=>zuJ _ _ (hp.el hlt)) ?_|(simp only [go_sem,jq,jj,jy,jv,jk,jx,zkH hp hlt,hp.some hlt,hlt,jW];try rfl)|refine Wb ?_|fail
  refine zc9 rfl (fun hq=>?_) (fun hq=>?_)
  ·rw [Bool.not_eq_true'] at hq
   refine Wk ?_
   rw [zuU hlt hq,Bool.and_false]
  ·rw [Bool.not_eq_false'] at hq
   refine Wk ?_
   exact ⟨k+1,⟨hlt,zuV hlt hk.2 hq⟩,by omega,zjB (zjA hlt (by omega))⟩
 ·have hge:=zjI hd
  refine Wk ?_
  have:=hk.2
  rw [List.take_of_length_le hge] at this
  rw [this,In,hc1,decide_eq_true (show t.parts.l.length≤4 by omega)];rfl
def dS:DSurge:=⟨0,0,0⟩
def zuX (l:List DSurge) (i:Nat):Bool:=zuK (l.getD i dS) && !(decide (0 < (i:Int)) && decide ((l.getD i dS).src≤(l.getD (i - 1) dS).src))
def zuY (f:PForecast):Bool:=zuS f.tide && In (f.surges.length:Int) 1 6 && decide ((f.surges.getD 0 dS).src=0) && decide (∀ i,i < f.surges.length→zuX f.surges i=true)
theorem zuZ (s:Sl DSurge):Con.con s=s.l:=List.map_id _
theorem sget {l:List DSurge} {i:Nat} (hi:i < l.length):l.getD i dS=l[i]:=by simp [List.getD_eq_getElem?_getD,hi]
theorem zY5 (f:DForecast) (h:Hp) (hf:Enc.ok h f):Ct jV 170 [f.v] h fun v h'=>v=.bool (zuY (Con.con f))∧h'=h:=by
 have hp:=hf.2
 have hl:=hp.max
 rw [zuY,show (Con.con f).tide=Con.con f.tide from rfl,show (Con.con f).surges=f.surges.l from zuZ _]
 refine zdn (fun A W=>by simp) Tryz.func170 rfl rfl (by simp) fun W0=>?_
 by_cases h0:0 < f.surges.l.length
 ·have hs0:=hp.some h0
  have hf0:(0 < (f.surges.l.length:Int))=True:=eq_true (by omega)
  have hs1:=(zlQ hp h0).1
  simp only [go_sem,Nat.zero_mul] at hs1
  repeat' first|refine Wa ?_|refine zhF (fun _=>zY4 _ _ hf.1) ?_|refine zhF (fun _=>zYZ _ _ _ _) ?_|(simp only [go_sem,jq,jj,jy,jv,jk,jx,hf0,hs0,hs1,Int.toNat_zero,Nat.zero_mul,Int.le_refl,implies_true,true_and,and_true];try rfl)|refine Wb ?_|fail
  refine zc9 rfl (fun hc=>?_) (fun hc=>?_)
  ·refine Wk ?_
   congr 1
   simp only [jQ,Bool.not_eq_true'] at hc
   rcases hc with (hc|hc)|hc
   ·rw [hc];rfl
   ·rw [In,hc,Bool.and_false];rfl
   ·rw [sget h0,decide_eq_false (by simpa using hc),Bool.and_false,Bool.false_and]
  simp only [jp,Bool.not_eq_false'] at hc
  obtain ⟨⟨hc1,hc2⟩,hc3⟩:=hc
  have hc3:=zjE hc3
  have hpre:(zuS (Con.con f.tide) && In (f.surges.l.length:Int) 1 6 && decide ((f.surges.l.getD 0 dS).src=0))=true:=by rw [hc1,In,hc2,sget h0,decide_eq_true hc3];rfl
  rw [hpre,Bool.true_and]
  refine Wk ?_
  refine zde (ι:=Nat) (fun k=>⟨[(1,true,.c (.p 0 0)),(25,true,.c (.v f.surges.val)),(26,true,.c (.v (.int .i64 f.surges.l.length))),(27,true,.c (.v (.int .i64 k)))],[(0,.box 53 [.v (.int .i64 f.tide.mean),.v f.tide.parts.val,.v f.surges.val])],h,1⟩) (fun k=>k≤f.surges.l.length∧∀ i,i < k→zuX f.surges.l i=true) (fun k=>f.surges.l.length - k) 0 ⟨Nat.zero_le _,fun i hi=>absurd hi (Nat.not_lt_zero _)⟩ ?_ ?_
  ·refine Evs ?_
   exact Gk
  intro k hk
  refine Wk ?_
  refine zc9 rfl (fun hd=>?_) (fun hd=>?_)
  ·have hlt:=zjH hd
   have fin:∀ b:Bool,b=zuX f.surges.l k→(b=false→decide (∀ i,i < f.surges.l.length→zuX f.surges.l i=true)=false)∧(b=true→∀ i,i < k+1→zuX f.surges.l i=true):=by
    rintro b rfl
    refine ⟨fun e=>decide_eq_false fun hh=>(by rw [hh k hlt] at e;cases e),fun e i hi=>?_⟩
    rcases Nat.lt_succ_iff_lt_or_eq.1 hi with hi|rfl
    ·exact hk.2 i hi
    ·exact e
   have hsg:=sget hlt
   rcases Nat.eq_zero_or_pos k with hz|hz
   ·have hfk:(0 < (k:Int))=False:=eq_false (by omega)
    repeat' first|refine Wa ?_|(simp only [go_sem,jq,jj,jy,jv,jk,jx,zkM hp hlt,hp.some hlt,hlt,jW];try rfl)|refine Wb ?_|fail
    refine ziV rfl ?_
    refine zi3 [0] rfl (by kernel_rfl) ?_
    refine Evs ?_
    refine ziT [1] (by kernel_rfl) (by kernel_rfl) ?_
    refine Evs ?_
    refine zhF (fun _=>zY2 _ _) ?_
    refine Evs ?_
    refine zi3 [2,3,4,5,6,7,8,9,10,11,12,13,14,15,16,17,18] rfl (by kernel_rfl) ?_
    simp only [go_sem,jq,jj,jy,jv,jk,jx,hfk,decide_false,Bool.and_false,Bool.false_and,Bool.or_false,Bool.false_eq_true,false_implies,implies_true,true_and,reduceCtorEq]
    refine ziU (by kernel_rfl) ?_
    refine Wk ?_
    refine zc9 rfl (fun hq=>?_) (fun hq=>?_)
    ·refine Wk ?_
     rw [(fin (zuK f.surges.l[k]) (by rw [zuX,hsg];simp only [hfk,decide_false,Bool.false_and,Bool.not_false,Bool.and_true])).1 (by simpa using hq)]
    ·refine Wk ?_
     exact ⟨k+1,⟨hlt,(fin (zuK f.surges.l[k]) (by rw [zuX,hsg];simp only [hfk,decide_false,Bool.false_and,Bool.not_false,Bool.and_true])).2 (by simpa using hq)⟩,by omega,zjB (zjA hlt (by omega))⟩
   ·have hfk:(0 < (k:Int))=True:=eq_true (by omega)
    have hk1:k - 1 < f.surges.l.length:=by omega
    have hw:IntKind.i64.wrap ((k:Int) - 1)=((k - 1:Nat):Int):=by rw [zjz (by omega)];omega
    repeat' first|refine Wa ?_|(simp only [go_sem,jq,jj,jy,jv,jk,jx,zkM hp hlt,hp.some hlt,hlt,jW];try rfl)|refine Wb ?_|fail
    refine ziV rfl ?_
    refine zi3 [0] rfl (by kernel_rfl) ?_
    refine Evs ?_
    refine ziT [1] (by kernel_rfl) (by kernel_rfl) ?_
    refine Evs ?_
    refine zhF (fun _=>zY2 _ _) ?_
    refine Evs ?_
    refine zi3 [2,3,4,5,6,7,8,9,10,11,12,13,14,15,16,17,18] rfl (by kernel_rfl) ?_
    simp only [go_sem,jq,jj,jy,jv,jk,jx,hfk,hw,zlQ hp hk1,hp.some hk1,hk1,jW,decide_true,and_true,imp_self,implies_true,true_and,Bool.true_and,Bool.and_true]
    refine ziU (by kernel_rfl) ?_
    refine Wk ?_
    refine zc9 rfl (fun hq=>?_) (fun hq=>?_)
    ·refine Wk ?_
     rw [(fin _ rfl).1 ?_]
     rw [zuX,sget hlt,sget hk1]
     rcases (jQ _ _).mp hq with h1|h1
     ·rw [Bool.not_eq_true'] at h1
      rw [h1];rfl
     ·rw [decide_eq_true (show 0 < (k:Int) by omega),decide_eq_true (of_decide_eq_true h1),Bool.and_self,Bool.not_true,Bool.and_false]
    ·refine Wk ?_
     refine ⟨k+1,⟨hlt,(fin _ rfl).2 ?_⟩,by omega,zjB (zjA hlt (by omega))⟩
     rw [zuX,sget hlt,sget hk1]
     obtain ⟨h1,h2⟩:=Bool.or_eq_false_iff.1 hq
     rw [Bool.not_eq_false'] at h1
     rw [h1,decide_eq_false (of_decide_eq_false h2),Bool.and_false];rfl
  ·have hge:=zjI hd
   refine Wk ?_
   exact zjG (fun i hi=>hk.2 i (by omega))
 ·have h1f:(1≤(f.surges.l.length:Int))=False:=eq_false (by omega)
  repeat' first|refine Wa ?_|refine zhF (fun _=>zY4 _ _ hf.1) ?_|refine zhF (fun _=>zYZ _ _ _ _) ?_|(simp only [go_sem,jq,jj,jy,jv,jk,jx,h1f,decide_false,Bool.false_and,Bool.not_false,Bool.or_true,reduceCtorEq,false_implies,true_and];try rfl)|refine Wb ?_|fail
  refine zc9 rfl (fun hc=>?_) (fun hc=>?_)
  ·refine Wk ?_
   congr 1
   simp only [In,h1f,decide_false,Bool.false_and,Bool.and_false]
  ·simp at hc
theorem zu0 (f:DForecast) (h:Hp) (hf:Enc.ok h f):Ct jV 148 [f.v] h fun v h'=>v=.bool (zuY (Con.con f))∧h'=h:=by
 have hp:=hf.2
 have hl:=hp.max
 rw [zuY,show (Con.con f).tide=Con.con f.tide from rfl,show (Con.con f).surges=f.surges.l from zuZ _]
 refine zdn (fun A W=>by simp) Tryz.func148 rfl rfl (by simp) fun W0=>?_
 by_cases h0:0 < f.surges.l.length
 ·have hs0:=hp.some h0
  have hf0:(0 < (f.surges.l.length:Int))=True:=eq_true (by omega)
  have hs1:=(zlQ hp h0).1
  simp only [go_sem,Nat.zero_mul] at hs1
  repeat' first|refine Wa ?_|refine zhF (fun _=>zuW _ _ hf.1) ?_|refine zhF (fun _=>zum _ _ _ _) ?_|(simp only [go_sem,jq,jj,jy,jv,jk,jx,hf0,hs0,hs1,Int.toNat_zero,Nat.zero_mul,Int.le_refl,implies_true,true_and,and_true];try rfl)|refine Wb ?_|fail
  refine zc9 rfl (fun hc=>?_) (fun hc=>?_)
  ·refine Wk ?_
   congr 1
   simp only [jQ,Bool.not_eq_true'] at hc
   rcases hc with (hc|hc)|hc
   ·rw [hc];rfl
   ·rw [In,hc,Bool.and_false];rfl
   ·rw [sget h0,decide_eq_false (by simpa using hc),Bool.and_false,Bool.false_and]
  simp only [jp,Bool.not_eq_false'] at hc
  obtain ⟨⟨hc1,hc2⟩,hc3⟩:=hc
  have hc3:=zjE hc3
  have hpre:(zuS (Con.con f.tide) && In (f.surges.l.length:Int) 1 6 && decide ((f.surges.l.getD 0 dS).src=0))=true:=by rw [hc1,In,hc2,sget h0,decide_eq_true hc3];rfl
  rw [hpre,Bool.true_and]
  refine Wk ?_
  refine zde (ι:=Nat) (fun k=>⟨[(1,true,.c (.p 0 0)),(25,true,.c (.v f.surges.val)),(26,true,.c (.v (.int .i64 f.surges.l.length))),(27,true,.c (.v (.int .i64 k)))],[(0,.box 53 [.v (.int .i64 f.tide.mean),.v f.tide.parts.val,.v f.surges.val])],h,1⟩) (fun k=>k≤f.surges.l.length∧∀ i,i < k→zuX f.surges.l i=true) (fun k=>f.surges.l.length - k) 0 ⟨Nat.zero_le _,fun i hi=>absurd hi (Nat.not_lt_zero _)⟩ ?_ ?_
  ·refine Evs ?_
   exact Gk
  intro k hk
  refine Wk ?_
  refine zc9 rfl (fun hd=>?_) (fun hd=>?_)
  ·have hlt:=zjH hd
   have fin:∀ b:Bool,b=zuX f.surges.l k→(b=false→decide (∀ i,i < f.surges.l.length→zuX f.surges.l i=true)=false)∧(b=true→∀ i,i < k+1→zuX f.surges.l i=true):=by
    rintro b rfl
    refine ⟨fun e=>decide_eq_false fun hh=>(by rw [hh k hlt] at e;cases e),fun e i hi=>?_⟩
    rcases Nat.lt_succ_iff_lt_or_eq.1 hi with hi|rfl
    ·exact hk.2 i hi
    ·exact e
   have hsg:=sget hlt
   rcases Nat.eq_zero_or_pos k with hz|hz
   ·have hfk:(0 < (k:Int))=False:=eq_false (by omega)
    repeat' first|refine Wa ?_|(simp only [go_sem,jq,jj,jy,jv,jk,jx,zkM hp hlt,hp.some hlt,hlt,jW];try rfl)|refine Wb ?_|fail
    refine ziV rfl ?_
    refine zi3 [0] rfl (by kernel_rfl) ?_
    refine Evs ?_
    refine ziT [1] (by kernel_rfl) (by kernel_rfl) ?_
    refine Evs ?_
    refine zhF (fun _=>zuL _ _) ?_
    refine Evs ?_
    refine zi3 [2,3,4,5,6,7,8,9,10,11,12,13,14,15,16,17,18] rfl (by kernel_rfl) ?_
    simp only [go_sem,jq,jj,jy,jv,jk,jx,hfk,decide_false,Bool.and_false,Bool.false_and,Bool.or_false,Bool.false_eq_true,false_implies,implies_true,true_and,reduceCtorEq]
    refine ziU (by kernel_rfl) ?_
    refine Wk ?_
    refine zc9 rfl (fun hq=>?_) (fun hq=>?_)
    ·refine Wk ?_
     rw [(fin (zuK f.surges.l[k]) (by rw [zuX,hsg];simp only [hfk,decide_false,Bool.false_and,Bool.not_false,Bool.and_true])).1 (by simpa using hq)]
    ·refine Wk ?_
     exact ⟨k+1,⟨hlt,(fin (zuK f.surges.l[k]) (by rw [zuX,hsg];simp only [hfk,decide_false,Bool.false_and,Bool.not_false,Bool.and_true])).2 (by simpa using hq)⟩,by omega,zjB (zjA hlt (by omega))⟩
   ·have hfk:(0 < (k:Int))=True:=eq_true (by omega)
    have hk1:k - 1 < f.surges.l.length:=by omega
    have hw:IntKind.i64.wrap ((k:Int) - 1)=((k - 1:Nat):Int):=by rw [zjz (by omega)];omega
    repeat' first|refine Wa ?_|(simp only [go_sem,jq,jj,jy,jv,jk,jx,zkM hp hlt,hp.some hlt,hlt,jW];try rfl)|refine Wb ?_|fail
    refine ziV rfl ?_
    refine zi3 [0] rfl (by kernel_rfl) ?_
    refine Evs ?_
    refine ziT [1] (by kernel_rfl) (by kernel_rfl) ?_
    refine Evs ?_
    refine zhF (fun _=>zuL _ _) ?_
    refine Evs ?_
    refine zi3 [2,3,4,5,6,7,8,9,10,11,12,13,14,15,16,17,18] rfl (by kernel_rfl) ?_
    simp only [go_sem,jq,jj,jy,jv,jk,jx,hfk,hw,zlQ hp hk1,hp.some hk1,hk1,jW,decide_true,and_true,imp_self,implies_true,true_and,Bool.true_and,Bool.and_true]
    refine ziU (by kernel_rfl) ?_
    refine Wk ?_
    refine zc9 rfl (fun hq=>?_) (fun hq=>?_)
    ·refine Wk ?_
     rw [(fin _ rfl).1 ?_]
     rw [zuX,sget hlt,sget hk1]
     rcases (jQ _ _).mp hq with h1|h1
     ·rw [Bool.not_eq_true'] at h1
      rw [h1];rfl
     ·rw [decide_eq_true (show 0 < (k:Int) by omega),decide_eq_true (of_decide_eq_true h1),Bool.and_self,Bool.not_true,Bool.and_false]
    ·refine Wk ?_
     refine ⟨k+1,⟨hlt,(fin _ rfl).2 ?_⟩,by omega,zjB (zjA hlt (by omega))⟩
     rw [zuX,sget hlt,sget hk1]
     obtain ⟨h1,h2⟩:=Bool.or_eq_false_iff.1 hq
     rw [Bool.not_eq_false'] at h1
     rw [h1,decide_eq_false (of_decide_eq_false h2),Bool.and_false];rfl
  ·have hge:=zjI hd
   refine Wk ?_
   exact zjG (fun i hi=>hk.2 i (by omega))
 ·have h1f:(1≤(f.surges.l.length:Int))=False:=eq_false (by omega)
  repeat' first|refine Wa ?_|refine zhF (fun _=>zuW _ _ hf.1) ?_|refine zhF (fun _=>zum _ _ _ _) ?_|(simp only [go_sem,jq,jj,jy,jv,jk,jx,h1f,decide_false,Bool.false_and,Bool.not_false,Bool.or_true,reduceCtorEq,false_implies,true_and];try rfl)|refine Wb ?_|fail
  refine zc9 rfl (fun hc=>?_) (fun hc=>?_)
  ·refine Wk ?_
   congr 1
   simp only [In,h1f,decide_false,Bool.false_and,Bool.and_false]
  ·simp at hc
def dP:DPoint:=⟨ByteArray.empty,false⟩
def dG:DSegment:=⟨0,0,0,0,false⟩
theorem pget {l:List DPoint} {i:Nat} (hi:i < l.length):l.getD i dP=l[i]:=by simp [List.getD_eq_getElem?_getD,hi]
theorem gget {l:List DSegment} {i:Nat} (hi:i < l.length):l.getD i dG=l[i]:=by simp [List.getD_eq_getElem?_getD,hi]
def zu1 (l:List DPoint) (n:ByteArray):Int:=zuP (fun p=>decide (p.name=n)) l
theorem zu2 (s:Sl DPoint):Con.con s=s.l:=List.map_id _
theorem zu3 (s:Sl DSegment):Con.con s=s.l:=List.map_id _
theorem zu4 (s:Sl DShip):Con.con s=s.l:=List.map_id _
def zu5 (s:DSegment) (a b:Int):Bool:=decide (s.a=a) && decide (s.b=b) || decide (s.a=b) && decide (s.b=a)
theorem zY6 (s:DSegment) (a b:Int) (h:Hp):Ct jV 249 [s.v,.int .i64 a,.int .i64 b] h fun v h'=>v=.bool (zu5 s a b)∧h'=h:=by
 refine zdn (fun A W=>by simp) Tryz.func249 rfl rfl (by simp) fun W0=>?_
 exact Wk0
theorem zu6 (s:DSegment) (a b:Int) (h:Hp):Ct jV 255 [s.v,.int .i64 a,.int .i64 b] h fun v h'=>v=.bool (zu5 s a b)∧h'=h:=by
 refine zdn (fun A W=>by simp) Tryz.func255 rfl rfl (by simp) fun W0=>?_
 exact Wk0
def ptOk (l:List DPoint) (i:Nat):Bool:=zuN (l.getD i dP).name && decide (zu1 l (l.getD i dP).name=(i:Int))
def zu7 (n:Nat) (s:DSegment):Bool:=decide (0≤s.a∧s.a < n∧0≤s.b∧s.b < n∧s.a ≠ s.b∧0≤s.depth∧s.depth≤3000∧1≤s.minutes∧s.minutes≤240)
def zu8 (l:List DSegment) (i:Nat):Bool:=decide (∀ j,j < i→zu5 (l.getD j dG) (l.getD i dG).a (l.getD i dG).b=false)
def zu9 (n:Nat) (l:List DSegment) (i:Nat):Bool:=zu7 n (l.getD i dG) && zu8 l i
def zva (c:PChart):Bool:=decide (c.points.length≤8) && decide (c.segments.length≤10) && decide (∀ i,i < c.points.length→ptOk c.points i=true) && decide (∀ i,i < c.segments.length→zu9 c.points.length c.segments i=true)
theorem zvb (c:DChart):zva (Con.con c)=(decide (c.points.l.length≤8) && decide (c.segments.l.length≤10) && decide (∀ i,i < c.points.l.length→ptOk c.points.l i=true) && decide (∀ i,i < c.segments.l.length→zu9 c.points.l.length c.segments.l i=true)):=by
 rw [zva,show (Con.con c).points=c.points.l from zu2 _,show (Con.con c).segments=c.segments.l from zu3 _]
theorem zvc {p:Nat→Bool} {n k:Nat} (hk:k < n) (h:p k=false):decide (∀ i,i < n→p i=true)=false:=decide_eq_false fun hh=>by rw [hh k hk] at h;cases h
theorem zvd {p:Nat→Bool} {k:Nat} (hp:∀ i,i < k→p i=true) (h:p k=true):∀ i,i < k+1→p i=true:=fun i hi=>by
 rcases Nat.lt_succ_iff_lt_or_eq.1 hi with hi|rfl
 ·exact hp i hi
 ·exact h
theorem zve {p:Nat→Bool} {n k:Nat} (hk:n≤k) (hp:∀ i,i < k→p i=true):decide (∀ i,i < n→p i=true)=true:=decide_eq_true fun i hi=>hp i (by omega)
theorem zvf {p:Nat→Bool}:∀ i,i < 0→p i=true:=fun i hi=>absurd hi (Nat.not_lt_zero _)
theorem zY7 (c:DChart) (n:ByteArray) (h:Hp) (hc:Enc.ok h c):Ct jV 248 [c.v,.string n] h fun v h'=>v=.int .i64 (zu1 c.points.l n)∧h'=h:=by
 have hp:=hc.1
 have hl:=hp.max
 refine zdn (fun A W=>by simp) Tryz.func248 rfl rfl (by simp) fun W0=>?_
 refine Wk ?_
 refine zde (ι:=Nat) (fun k=>⟨[(1,true,.c (.v (.string n))),(8,true,.c (.v c.points.val)),(9,true,.c (.v (.int .i64 c.points.l.length))),(10,true,.c (.v (.int .i64 k)))],[],h,1⟩) (fun k=>k≤c.points.l.length∧∀ i (hi:i < c.points.l.length),i < k→(decide (c.points.l[i].name=n))=false) (fun k=>c.points.l.length - k) 0 ⟨Nat.zero_le _,fun i _ hi=>absurd hi (Nat.not_lt_zero _)⟩ ?_ ?_
 ·refine Evs ?_
  exact Gk
 intro k hk
 refine Wk ?_
 refine zc9 rfl (fun hd=>?_) (fun hd=>?_)
 ·have hlt:=zjH hd
  repeat' first|refine Wa ?_|(simp (maxSteps:=2000000) only [go_sem,jq,jj,jy,jv,jk,jx,zkS hp hlt,hp.some hlt,hlt,jW];try rfl)|refine Wb ?_|fail
  refine zc9 rfl (fun hq=>?_) (fun hq=>?_)
  ·refine Wk ?_
   rw [zu1,zuQ hlt hq hk.2]
  ·refine Wk ?_
   refine ⟨k+1,⟨hlt,fun i hi hik=>?_⟩,by omega,zjB (zjA hlt (by omega))⟩
   rcases Nat.lt_succ_iff_lt_or_eq.1 hik with hik|rfl
   ·exact hk.2 i hi hik
   ·exact hq
 ·have hge:=zjI hd
  refine Wk ?_
  rw [zu1,zuR (fun i hi=>hk.2 i hi (by omega))]
theorem zvg (c:DChart) (n:ByteArray) (h:Hp) (hc:Enc.ok h c):Ct jV 254 [c.v,.string n] h fun v h'=>v=.int .i64 (zu1 c.points.l n)∧h'=h:=by
 have hp:=hc.1
 have hl:=hp.max
 refine zdn (fun A W=>by simp) Tryz.func254 rfl rfl (by simp) fun W0=>?_
 refine Wk ?_
 refine zde (ι:=Nat) (fun k=>⟨[(1,true,.c (.v (.string n))),(8,true,.c (.v c.points.val)),(9,true,.c (.v (.int .i64 c.points.l.length))),(10,true,.c (.v (.int .i64 k)))],[],h,1⟩) (fun k=>k≤c.points.l.length∧∀ i (hi:i < c.points.l.length),i < k→(decide (c.points.l[i].name=n))=false) (fun k=>c.points.l.length - k) 0 ⟨Nat.zero_le _,fun i _ hi=>absurd hi (Nat.not_lt_zero _)⟩ ?_ ?_
 ·refine Evs ?_
  exact Gk
 intro k hk
 refine Wk ?_
 refine zc9 rfl (fun hd=>?_) (fun hd=>?_)
 ·have hlt:=zjH hd
  repeat' first|refine Wa ?_|(simp (maxSteps:=2000000) only [go_sem,jq,jj,jy,jv,jk,jx,zkS hp hlt,hp.some hlt,hlt,jW];try rfl)|refine Wb ?_|fail
  refine zc9 rfl (fun hq=>?_) (fun hq=>?_)
  ·refine Wk ?_
   rw [zu1,zuQ hlt hq hk.2]
  ·refine Wk ?_
   refine ⟨k+1,⟨hlt,fun i hi hik=>?_⟩,by omega,zjB (zjA hlt (by omega))⟩
   rcases Nat.lt_succ_iff_lt_or_eq.1 hik with hik|rfl
   ·exact hk.2 i hi hik
   ·exact hq
 ·have hge:=zjI hd
  refine Wk ?_
  rw [zu1,zuR (fun i hi=>hk.2 i hi (by omega))]
theorem zY8 (c:DChart) (h:Hp) (hc:Enc.ok h c):Ct jV 184 [c.v] h fun v h'=>v=.bool (zva (Con.con c))∧h'=h:=by
 have hp:=hc.1
 have hg:=hc.2
 have hl:=hp.max
 have hl2:=hg.max
 have hw:IntKind.i64.wrap ((c.points.l.length:Int) - 1)=(c.points.l.length:Int) - 1:=zjz (by omega)
 rw [zvb]
 refine zdn (fun A W=>by simp) Tryz.func184 rfl rfl (by simp) fun W0=>?_
 refine Wk ?_
 refine zc9 rfl (fun hc1=>?_) (fun hc1=>?_)
 ·refine Wk ?_
  congr 1
  rcases (jQ _ _).mp hc1 with h1|h1
  ·rw [decide_eq_false (by have:=of_decide_eq_true h1;omega)];rfl
  ·rw [decide_eq_false (p:=c.segments.l.length≤10) (by have:=of_decide_eq_true h1;omega),Bool.and_false];rfl
 obtain ⟨hc2,hc3⟩:=Bool.or_eq_false_iff.1 hc1
 have hc2:=of_decide_eq_false hc2
 have hc3:=of_decide_eq_false hc3
 rw [decide_eq_true (show c.points.l.length≤8 by omega),decide_eq_true (show c.segments.l.length≤10 by omega),Bool.and_self,Bool.true_and]
 refine Wk ?_
 refine zde (ι:=Nat) (fun k=>⟨[(1,true,.c (.p 0 0)),(20,true,.c (.v c.points.val)),(21,true,.c (.v (.int .i64 c.points.l.length))),(22,true,.c (.v (.int .i64 k)))],[(0,.box 57 [.v c.points.val,.v c.segments.val])],h,1⟩) (fun k=>k≤c.points.l.length∧∀ i,i < k→ptOk c.points.l i=true) (fun k=>c.points.l.length - k) 0 ⟨Nat.zero_le _,zvf⟩ ?_ ?_
 ·refine Evs ?_
  exact Gk
 ·intro k hk
  refine Wk ?_
  refine zc9 rfl (fun hd=>?_) (fun hd=>?_)
  ·have hlt:=zjH hd
   repeat' first|refine Wa ?_|refine zhF (fun _=>zY3 _ _ (hp.el hlt)) ?_|refine zhF (fun _=>zY7 c _ _ hc) ?_|(simp (maxSteps:=2000000) only [go_sem,jq,jj,jy,jv,jk,jx,zkS hp hlt,hp.some hlt,hlt,jW];try rfl)|refine Wb ?_|fail
   refine zc9 rfl (fun hq=>?_) (fun hq=>?_)
   ·refine Wk ?_
    rw [zvc hlt ?_];rfl
    rw [ptOk,pget hlt]
    rcases (jQ _ _).mp hq with h1|h1
    ·rw [Bool.not_eq_true'] at h1;rw [h1];rfl
    ·rw [decide_eq_false (zjD h1),Bool.and_false]
   ·obtain ⟨h1,h2⟩:=Bool.or_eq_false_iff.1 hq
    rw [Bool.not_eq_false'] at h1
    refine Wk ?_
    exact ⟨k+1,⟨hlt,zvd hk.2 (by rw [ptOk,pget hlt,h1,decide_eq_true (zjE h2)];rfl)⟩,by omega,zjB (zjA hlt (by omega))⟩
  ·have hge:=zjI hd
   rw [zve hge hk.2,Bool.true_and]
   refine Wk ?_
   refine zde (ι:=Nat) (fun k=>⟨[(1,true,.c (.p 0 0)),(41,true,.c (.v c.segments.val)),(42,true,.c (.v (.int .i64 c.segments.l.length))),(43,true,.c (.v (.int .i64 k)))],[(0,.box 57 [.v c.points.val,.v c.segments.val])],h,1⟩) (fun k=>k≤c.segments.l.length∧∀ i,i < k→zu9 c.points.l.length c.segments.l i=true) (fun k=>c.segments.l.length - k) 0 ⟨Nat.zero_le _,zvf⟩ ?_ ?_
   ·refine Evs ?_
    exact Gk
   intro k hk
   refine Wk ?_
   refine zc9 rfl (fun hd=>?_) (fun hd=>?_)
   ·have hlt:=zjH hd
    repeat' first|refine Wa ?_|refine zhF (fun _=>zYZ _ _ _ _) ?_|refine zhF (fun _=>zYZ _ _ _ _) ?_|(simp (maxSteps:=2000000) only [go_sem,jq,jj,jy,jv,jk,jx,zkU hg hlt,hg.some hlt,hlt,jW,hw];try rfl)|refine Wb ?_|fail
    refine zc9 rfl (fun hq=>?_) (fun hq=>?_)
    ·refine Wk ?_
     rw [zvc hlt ?_]
     rw [zu9,gget hlt,zu7,decide_eq_false ?_,Bool.false_and]
     simp only [jQ,Bool.not_eq_true',Bool.and_eq_false_iff,decide_eq_false_iff_not,beq_iff_eq] at hq
     omega
    ·have hin:zu7 c.points.l.length c.segments.l[k]=true:=by
      simp only [jp,Bool.not_eq_false',jJ,decide_eq_true_eq,beq_eq_false_iff_ne] at hq
      rw [zu7]
      refine decide_eq_true ?_
      omega
     have hgo:=Sl.to_ok hg k
     have hlt0:=Sl.to_len hk.1
     have hcap:=hg.1
     refine Wk ?_
     refine ⟨by omega,?_⟩
     simp only [Int.toNat_zero,Nat.sub_zero,Nat.zero_mul,zmA,zmB,ite_self]
     rw [zmC hk.1]
     refine Wk ?_
     refine zde (ι:=Nat) (fun j=>⟨[(1,true,.c (.p 0 0)),(6,true,.c (.p 1 0)),(41,true,.c (.v c.segments.val)),(42,true,.c (.v (.int .i64 c.segments.l.length))),(43,true,.c (.v (.int .i64 k))),(88,true,.c (.v (c.segments.to k).val)),(89,true,.c (.v (.int .i64 k))),(90,true,.c (.v (.int .i64 j)))],[(0,.box 57 [.v c.points.val,.v c.segments.val]),(1,.box 230 [.v (.int .i64 c.segments.l[k].a),.v (.int .i64 c.segments.l[k].b),.v (.int .i64 c.segments.l[k].depth),.v (.int .i64 c.segments.l[k].minutes),.v (.bool c.segments.l[k].meet)])],h,2⟩) (fun j=>j≤k∧∀ i,i < j→zu5 (c.segments.l.getD i dG) c.segments.l[k].a c.segments.l[k].b=false) (fun j=>k - j) 0 ⟨Nat.zero_le _,fun i hi=>absurd hi (Nat.not_lt_zero _)⟩ ?_ ?_
     ·refine Evs ?_
      exact Gk
     intro j hj
     refine Wk ?_
     refine zc9 rfl (fun hq2=>?_) (fun hq2=>?_)
     ·have hltj:=zjH hq2
      have hltj':j < (c.segments.to k).l.length:=by omega
      have hltj2:j < c.segments.l.length:=by omega
      have hje:=Sl.to_get hltj' hltj2
      repeat' first|refine Wa ?_|refine zhF (fun _=>zY6 _ _ _ _) ?_|(simp (maxSteps:=2000000) only [go_sem,jq,jj,jy,jv,jk,jx,zkU hgo hltj',hgo.some hltj',hltj',hltj,jW,hje];try rfl)|refine Wb ?_|fail
      refine zc9 rfl (fun hq3=>?_) (fun hq3=>?_)
      ·refine Wk ?_
       rw [zvc hlt ?_]
       rw [zu9,gget hlt,hin,Bool.true_and,zu8]
       refine decide_eq_false fun hh=>?_
       have:=hh j hltj
       rw [gget hltj2,gget hlt,hq3] at this
       cases this
      ·refine Wk ?_
       exact ⟨j+1,⟨hltj,fun i hi=>by
        rcases Nat.lt_succ_iff_lt_or_eq.1 hi with hi|rfl
        ·exact hj.2 i hi
        ·rw [gget hltj2];exact hq3⟩,by omega,zjB (zjA hltj (by omega))⟩
     ·have hgej:=zjI hq2
      refine Wk ?_
      refine ⟨k+1,⟨hlt,zvd hk.2 ?_⟩,by omega,zjB (zjA hlt (by omega))⟩
      rw [zu9,gget hlt,hin,Bool.true_and,zu8]
      refine decide_eq_true fun i hi=>?_
      rw [gget hlt];exact hj.2 i (by omega)
   ·have hge:=zjI hd
    refine Wk ?_
    rw [zve hge hk.2]
theorem zvh (c:DChart) (h:Hp) (hc:Enc.ok h c):Ct jV 192 [c.v] h fun v h'=>v=.bool (zva (Con.con c))∧h'=h:=by
 have hp:=hc.1
 have hg:=hc.2
 have hl:=hp.max
 have hl2:=hg.max
 have hw:IntKind.i64.wrap ((c.points.l.length:Int) - 1)=(c.points.l.length:Int) - 1:=zjz (by omega)
 rw [zvb]
 refine zdn (fun A W=>by simp) Tryz.func192 rfl rfl (by simp) fun W0=>?_
 refine Wk ?_
 refine zc9 rfl (fun hc1=>?_) (fun hc1=>?_)
 ·refine Wk ?_
  congr 1
  rcases (jQ _ _).mp hc1 with h1|h1
  ·rw [decide_eq_false (by have:=of_decide_eq_true h1;omega)];rfl
  ·rw [decide_eq_false (p:=c.segments.l.length≤10) (by have:=of_decide_eq_true h1;omega),Bool.and_false];rfl
 obtain ⟨hc2,hc3⟩:=Bool.or_eq_false_iff.1 hc1
 have hc2:=of_decide_eq_false hc2
 have hc3:=of_decide_eq_false hc3
 rw [decide_eq_true (show c.points.l.length≤8 by omega),decide_eq_true (show c.segments.l.length≤10 by omega),Bool.and_self,Bool.true_and]
 refine Wk ?_
 refine zde (ι:=Nat) (fun k=>⟨[(1,true,.c (.p 0 0)),(20,true,.c (.v c.points.val)),(21,true,.c (.v (.int .i64 c.points.l.length))),(22,true,.c (.v (.int .i64 k)))],[(0,.box 57 [.v c.points.val,.v c.segments.val])],h,1⟩) (fun k=>k≤c.points.l.length∧∀ i,i < k→ptOk c.points.l i=true) (fun k=>c.points.l.length - k) 0 ⟨Nat.zero_le _,zvf⟩ ?_ ?_
 ·refine Evs ?_
  exact Gk
 ·intro k hk
  refine Wk ?_
  refine zc9 rfl (fun hd=>?_) (fun hd=>?_)
  ·have hlt:=zjH hd
   repeat' first|refine Wa ?_|refine zhF (fun _=>zuO _ _ (hp.el hlt)) ?_|refine zhF (fun _=>zvg c _ _ hc) ?_|(simp (maxSteps:=2000000) only [go_sem,jq,jj,jy,jv,jk,jx,zkS hp hlt,hp.some hlt,hlt,jW];try rfl)|refine Wb ?_|fail
   refine zc9 rfl (fun hq=>?_) (fun hq=>?_)
   ·refine Wk ?_
    rw [zvc hlt ?_];rfl
    rw [ptOk,pget hlt]
    rcases (jQ _ _).mp hq with h1|h1
    ·rw [Bool.not_eq_true'] at h1;rw [h1];rfl
    ·rw [decide_eq_false (zjD h1),Bool.and_false]
   ·obtain ⟨h1,h2⟩:=Bool.or_eq_false_iff.1 hq
    rw [Bool.not_eq_false'] at h1
    refine Wk ?_
    exact ⟨k+1,⟨hlt,zvd hk.2 (by rw [ptOk,pget hlt,h1,decide_eq_true (zjE h2)];rfl)⟩,by omega,zjB (zjA hlt (by omega))⟩
  ·have hge:=zjI hd
   rw [zve hge hk.2,Bool.true_and]
   refine Wk ?_
   refine zde (ι:=Nat) (fun k=>⟨[(1,true,.c (.p 0 0)),(41,true,.c (.v c.segments.val)),(42,true,.c (.v (.int .i64 c.segments.l.length))),(43,true,.c (.v (.int .i64 k)))],[(0,.box 57 [.v c.points.val,.v c.segments.val])],h,1⟩) (fun k=>k≤c.segments.l.length∧∀ i,i < k→zu9 c.points.l.length c.segments.l i=true) (fun k=>c.segments.l.length - k) 0 ⟨Nat.zero_le _,zvf⟩ ?_ ?_
   ·refine Evs ?_
    exact Gk
   intro k hk
   refine Wk ?_
   refine zc9 rfl (fun hd=>?_) (fun hd=>?_)
   ·have hlt:=zjH hd
    repeat' first|refine Wa ?_|refine zhF (fun _=>zuo _ _ _) ?_|refine zhF (fun _=>zum _ _ _ _) ?_|(simp (maxSteps:=2000000) only [go_sem,jq,jj,jy,jv,jk,jx,zkU hg hlt,hg.some hlt,hlt,jW];try rfl)|refine Wb ?_|fail
    refine zc9 rfl (fun hq=>?_) (fun hq=>?_)
    ·refine Wk ?_
     rw [zvc hlt ?_]
     rw [zu9,gget hlt,zu7,decide_eq_false ?_,Bool.false_and]
     simp only [jQ,Bool.not_eq_true',Bool.and_eq_false_iff,decide_eq_false_iff_not,beq_iff_eq] at hq
     omega
    ·have hin:zu7 c.points.l.length c.segments.l[k]=true:=by
      simp only [jp,Bool.not_eq_false',jJ,decide_eq_true_eq,beq_eq_false_iff_ne] at hq
      rw [zu7]
      refine decide_eq_true ?_
      omega
     have hgo:=Sl.to_ok hg k
     have hlt0:=Sl.to_len hk.1
     have hcap:=hg.1
     refine Wk ?_
     refine ⟨by omega,?_⟩
     simp only [Int.toNat_zero,Nat.sub_zero,Nat.zero_mul,zmA,zmB,ite_self]
     rw [zmC hk.1]
     refine Wk ?_
     refine zde (ι:=Nat) (fun j=>⟨[(1,true,.c (.p 0 0)),(6,true,.c (.p 1 0)),(41,true,.c (.v c.segments.val)),(42,true,.c (.v (.int .i64 c.segments.l.length))),(43,true,.c (.v (.int .i64 k))),(86,true,.c (.v (c.segments.to k).val)),(87,true,.c (.v (.int .i64 k))),(88,true,.c (.v (.int .i64 j)))],[(0,.box 57 [.v c.points.val,.v c.segments.val]),(1,.box 230 [.v (.int .i64 c.segments.l[k].a),.v (.int .i64 c.segments.l[k].b),.v (.int .i64 c.segments.l[k].depth),.v (.int .i64 c.segments.l[k].minutes),.v (.bool c.segments.l[k].meet)])],h,2⟩) (fun j=>j≤k∧∀ i,i < j→zu5 (c.segments.l.getD i dG) c.segments.l[k].a c.segments.l[k].b=false) (fun j=>k - j) 0 ⟨Nat.zero_le _,fun i hi=>absurd hi (Nat.not_lt_zero _)⟩ ?_ ?_
     ·refine Evs ?_
      exact Gk
     intro j hj
     refine Wk ?_
     refine zc9 rfl (fun hq2=>?_) (fun hq2=>?_)
     ·have hltj:=zjH hq2
      have hltj':j < (c.segments.to k).l.length:=by omega
      have hltj2:j < c.segments.l.length:=by omega
      have hje:=Sl.to_get hltj' hltj2
      repeat' first|refine Wa ?_|refine zhF (fun _=>zu6 _ _ _ _) ?_|(simp (maxSteps:=2000000) only [go_sem,jq,jj,jy,jv,jk,jx,zkU hgo hltj',hgo.some hltj',hltj',hltj,jW,hje];try rfl)|refine Wb ?_|fail
      refine zc9 rfl (fun hq3=>?_) (fun hq3=>?_)
      ·refine Wk ?_
       rw [zvc hlt ?_]
       rw [zu9,gget hlt,hin,Bool.true_and,zu8]
       refine decide_eq_false fun hh=>?_
       have:=hh j hltj
       rw [gget hltj2,gget hlt,hq3] at this
       cases this
      ·refine Wk ?_
       exact ⟨j+1,⟨hltj,fun i hi=>by
        rcases Nat.lt_succ_iff_lt_or_eq.1 hi with hi|rfl
        ·exact hj.2 i hi
        ·rw [gget hltj2];exact hq3⟩,by omega,zjB (zjA hltj (by omega))⟩
     ·have hgej:=zjI hq2
      refine Wk ?_
      refine ⟨k+1,⟨hlt,zvd hk.2 ?_⟩,by omega,zjB (zjA hlt (by omega))⟩
      rw [zu9,gget hlt,hin,Bool.true_and,zu8]
      refine decide_eq_true fun i hi=>?_
      rw [gget hlt];exact hj.2 i (by omega)
   ·have hge:=zjI hd
    refine Wk ?_
    rw [zve hge hk.2]
def dH:DShip:=⟨ByteArray.empty,0,0,0,0,false⟩
theorem hget {l:List DShip} {i:Nat} (hi:i < l.length):l.getD i dH=l[i]:=by simp [List.getD_eq_getElem?_getD,hi]
def zvi (l:List DShip) (n:ByteArray):Int:=zuP (fun p=>decide (p.name=n)) l
def zvj (s:DShip):Bool:=zuN s.name && In s.length 10 400 && In s.draught 100 2000 && In s.line 0 3 && In s.tugs 0 4
def shOk (l:List DShip) (i:Nat):Bool:=zvj (l.getD i dH) && decide (zvi l (l.getD i dH).name=(i:Int))
def zvk (l:List DShip):Bool:=decide (l.length≤6) && decide (∀ i,i < l.length→shOk l i=true)
def zvl (r:DRegime):Bool:=In r.gap 0 60
def zvm (l:List Int):Bool:=decide (l.length=64) && l.all (fun n=>In n 0 240)
def zvn (w:PCrew):Bool:=In w.tugs 0 12 && In w.pilots 0 12 && (In w.rest 0 2880 && zvm w.moves)
def zvo (x:PHarbour):Bool:=zuY x.forecast && zva x.chart && zvk x.fleet && zvl x.regime && zvn x.crew
theorem zY9 (c:Sl DShip) (n:ByteArray) (h:Hp) (hp:c.Ok h):Ct jV 250 [c.val,.string n] h fun v h'=>v=.int .i64 (zvi c.l n)∧h'=h:=by
 have hl:=hp.max
 refine zdn (fun A W=>by simp) Tryz.func250 rfl rfl (by simp) fun W0=>?_
 refine Wk ?_
 refine zde (ι:=Nat) (fun k=>⟨[(1,true,.c (.v (.string n))),(7,true,.c (.v c.val)),(8,true,.c (.v (.int .i64 c.l.length))),(9,true,.c (.v (.int .i64 k)))],[],h,1⟩) (fun k=>k≤c.l.length∧∀ i (hi:i < c.l.length),i < k→(decide (c.l[i].name=n))=false) (fun k=>c.l.length - k) 0 ⟨Nat.zero_le _,fun i _ hi=>absurd hi (Nat.not_lt_zero _)⟩ ?_ ?_
 ·refine Evs ?_
  exact Gk
 intro k hk
 refine Wk ?_
 refine zc9 rfl (fun hd=>?_) (fun hd=>?_)
 ·have hlt:=zjH hd
  repeat' first|refine Wa ?_|(simp only [go_sem,jq,jj,jy,jv,jk,jx,zk0 hp hlt,hp.some hlt,hlt,jW];try rfl)|refine Wb ?_|fail
  refine zc9 rfl (fun hq=>?_) (fun hq=>?_)
  ·refine Wk ?_
   rw [zvi,zuQ hlt hq hk.2]
  ·refine Wk ?_
   refine ⟨k+1,⟨hlt,fun i hi hik=>?_⟩,by omega,zjB (zjA hlt (by omega))⟩
   rcases Nat.lt_succ_iff_lt_or_eq.1 hik with hik|rfl
   ·exact hk.2 i hi hik
   ·exact hq
 ·have hge:=zjI hd
  refine Wk ?_
  rw [zvi,zuR (fun i hi=>hk.2 i hi (by omega))]
theorem zZa (s:DShip) (h:Hp) (hs:Enc.ok h s):Ct jV 171 [s.v] h fun v h'=>v=.bool (zvj s)∧h'=h:=by
 refine zdn (fun A W=>by simp) Tryz.func171 rfl rfl (by simp) fun W0=>?_
 repeat' first|refine Wa ?_|refine zhF (fun _=>zY3 _ _ hs.1) ?_|refine zhF (fun _=>zYZ _ _ _ _) ?_|(simp only [go_sem,jq,jj,jy,jv,jk,jx];try rfl)|refine Wb ?_|fail
 skip
 skip
theorem zZb (c:Sl DShip) (h:Hp) (hp:c.Ok h):Ct jV 185 [c.val] h fun v h'=>v=.bool (zvk c.l)∧h'=h:=by
 have hl:=hp.max
 rw [zvk]
 refine zdn (fun A W=>by simp) Tryz.func185 rfl rfl (by simp) fun W0=>?_
 refine Wk ?_
 refine zc9 rfl (fun hc=>?_) (fun hc=>?_)
 ·refine Wk ?_
  rw [decide_eq_false (by have:=of_decide_eq_true hc;omega)];rfl
 rw [decide_eq_true (show c.l.length≤6 by have:=of_decide_eq_false hc;omega),Bool.true_and]
 refine Wk ?_
 refine zde (ι:=Nat) (fun k=>⟨[(0,true,.c (.v c.val)),(8,true,.c (.v c.val)),(9,true,.c (.v (.int .i64 c.l.length))),(10,true,.c (.v (.int .i64 k)))],[],h,0⟩) (fun k=>k≤c.l.length∧∀ i,i < k→shOk c.l i=true) (fun k=>c.l.length - k) 0 ⟨Nat.zero_le _,zvf⟩ ?_ ?_
 ·refine Evs ?_
  exact Gk
 intro k hk
 refine Wk ?_
 refine zc9 rfl (fun hd=>?_) (fun hd=>?_)
 ·have hlt:=zjH hd
  repeat' first|refine Wa ?_|refine zhF (fun _=>zZa _ _ (hp.el hlt)) ?_|refine zhF (fun _=>zY9 c _ _ hp) ?_|(simp only [go_sem,jq,jj,jy,jv,jk,jx,zk0 hp hlt,hp.some hlt,hlt,jW];try rfl)|refine Wb ?_|fail
  refine zc9 rfl (fun hq=>?_) (fun hq=>?_)
  ·refine Wk ?_
   rw [zvc hlt ?_]
   rw [shOk,hget hlt]
   rcases (jQ _ _).mp hq with h1|h1
   ·rw [Bool.not_eq_true'] at h1;rw [h1];rfl
   ·rw [decide_eq_false (zjD h1),Bool.and_false]
  ·obtain ⟨h1,h2⟩:=Bool.or_eq_false_iff.1 hq
   rw [Bool.not_eq_false'] at h1
   refine Wk ?_
   exact ⟨k+1,⟨hlt,zvd hk.2 (by rw [shOk,hget hlt,h1,decide_eq_true (zjE h2)];rfl)⟩,by omega,zjB (zjA hlt (by omega))⟩
 ·have hge:=zjI hd
  refine Wk ?_
  rw [zve hge hk.2]
theorem zZc (s:DRegime) (h:Hp):Ct jV 186 [s.v] h fun v h'=>v=.bool (zvl s)∧h'=h:=by
 refine zdn (fun A W=>by simp) Tryz.func186 rfl rfl (by simp) fun W0=>?_
 repeat' first|refine Wa ?_|refine zhF (fun _=>zYZ _ _ _ _) ?_|(simp only [go_sem,jq,jj,jy,jv,jk,jx];try rfl)|refine Wb ?_|fail
theorem zvp (c:Sl DShip) (n:ByteArray) (h:Hp) (hp:c.Ok h):Ct jV 256 [c.val,.string n] h fun v h'=>v=.int .i64 (zvi c.l n)∧h'=h:=by
 have hl:=hp.max
 refine zdn (fun A W=>by simp) Tryz.func256 rfl rfl (by simp) fun W0=>?_
 refine Wk ?_
 refine zde (ι:=Nat) (fun k=>⟨[(1,true,.c (.v (.string n))),(7,true,.c (.v c.val)),(8,true,.c (.v (.int .i64 c.l.length))),(9,true,.c (.v (.int .i64 k)))],[],h,1⟩) (fun k=>k≤c.l.length∧∀ i (hi:i < c.l.length),i < k→(decide (c.l[i].name=n))=false) (fun k=>c.l.length - k) 0 ⟨Nat.zero_le _,fun i _ hi=>absurd hi (Nat.not_lt_zero _)⟩ ?_ ?_
 ·refine Evs ?_
  exact Gk
 intro k hk
 refine Wk ?_
 refine zc9 rfl (fun hd=>?_) (fun hd=>?_)
 ·have hlt:=zjH hd
  repeat' first|refine Wa ?_|(simp only [go_sem,jq,jj,jy,jv,jk,jx,zk0 hp hlt,hp.some hlt,hlt,jW];try rfl)|refine Wb ?_|fail
  refine zc9 rfl (fun hq=>?_) (fun hq=>?_)
  ·refine Wk ?_
   rw [zvi,zuQ hlt hq hk.2]
  ·refine Wk ?_
   refine ⟨k+1,⟨hlt,fun i hi hik=>?_⟩,by omega,zjB (zjA hlt (by omega))⟩
   rcases Nat.lt_succ_iff_lt_or_eq.1 hik with hik|rfl
   ·exact hk.2 i hi hik
   ·exact hq
 ·have hge:=zjI hd
  refine Wk ?_
  rw [zvi,zuR (fun i hi=>hk.2 i hi (by omega))]
theorem zvq (s:DShip) (h:Hp) (hs:Enc.ok h s):Ct jV 242 [s.v] h fun v h'=>v=.bool (zvj s)∧h'=h:=by
 refine zdn (fun A W=>by simp) Tryz.func242 rfl rfl (by simp) fun W0=>?_
 repeat' first|refine Wa ?_|refine zhF (fun _=>zuO _ _ hs.1) ?_|refine zhF (fun _=>zum _ _ _ _) ?_|refine zhF (fun _=>zuo _ _ _) ?_|(simp only [go_sem,jq,jj,jy,jv,jk,jx];try rfl)|refine Wb ?_|fail
 congr 1;rw [Bool.eq_iff_iff];simp only [zvj,In,jJ,jQ,Bool.not_eq_true',decide_eq_true_eq,decide_eq_false_iff_not,beq_iff_eq,and_assoc]
 constructor <;> intro hh <;> (refine ⟨hh.1,?_⟩;omega)
theorem zvr (c:Sl DShip) (h:Hp) (hp:c.Ok h):Ct jV 193 [c.val] h fun v h'=>v=.bool (zvk c.l)∧h'=h:=by
 have hl:=hp.max
 rw [zvk]
 refine zdn (fun A W=>by simp) Tryz.func193 rfl rfl (by simp) fun W0=>?_
 refine Wk ?_
 refine zc9 rfl (fun hc=>?_) (fun hc=>?_)
 ·refine Wk ?_
  rw [decide_eq_false (by have:=of_decide_eq_true hc;omega)];rfl
 rw [decide_eq_true (show c.l.length≤6 by have:=of_decide_eq_false hc;omega),Bool.true_and]
 refine Wk ?_
 refine zde (ι:=Nat) (fun k=>⟨[(0,true,.c (.v c.val)),(8,true,.c (.v c.val)),(9,true,.c (.v (.int .i64 c.l.length))),(10,true,.c (.v (.int .i64 k)))],[],h,0⟩) (fun k=>k≤c.l.length∧∀ i,i < k→shOk c.l i=true) (fun k=>c.l.length - k) 0 ⟨Nat.zero_le _,zvf⟩ ?_ ?_
 ·refine Evs ?_
  exact Gk
 intro k hk
 refine Wk ?_
 refine zc9 rfl (fun hd=>?_) (fun hd=>?_)
 ·have hlt:=zjH hd
  repeat' first|refine Wa ?_|refine zhF (fun _=>zvq _ _ (hp.el hlt)) ?_|refine zhF (fun _=>zvp c _ _ hp) ?_|(simp only [go_sem,jq,jj,jy,jv,jk,jx,zk0 hp hlt,hp.some hlt,hlt,jW];try rfl)|refine Wb ?_|fail
  refine zc9 rfl (fun hq=>?_) (fun hq=>?_)
  ·refine Wk ?_
   rw [zvc hlt ?_]
   rw [shOk,hget hlt]
   rcases (jQ _ _).mp hq with h1|h1
   ·rw [Bool.not_eq_true'] at h1;rw [h1];rfl
   ·rw [decide_eq_false (zjD h1),Bool.and_false]
  ·obtain ⟨h1,h2⟩:=Bool.or_eq_false_iff.1 hq
   rw [Bool.not_eq_false'] at h1
   refine Wk ?_
   exact ⟨k+1,⟨hlt,zvd hk.2 (by rw [shOk,hget hlt,h1,decide_eq_true (zjE h2)];rfl)⟩,by omega,zjB (zjA hlt (by omega))⟩
 ·have hge:=zjI hd
  refine Wk ?_
  rw [zve hge hk.2]
theorem zvs (s:DRegime) (h:Hp):Ct jV 194 [s.v] h fun v h'=>v=.bool (zvl s)∧h'=h:=by
 refine zdn (fun A W=>by simp) Tryz.func194 rfl rfl (by simp) fun W0=>?_
 repeat' first|refine Wa ?_|refine zhF (fun _=>zum _ _ _ _) ?_|(simp only [go_sem,jq,jj,jy,jv,jk,jx];try rfl)|refine Wb ?_|fail
theorem zvt {l:List Int} {k:Nat} (hk:k < l.length) (h:In l[k] 0 240=false):zvm l=false:=by rw [zvm,zuU (p:=fun n=>In n 0 240) hk h,Bool.and_false]
theorem zvu {l:List Int} {k:Nat} (h64:l.length=64) (hk:l.length≤k) (hp:(l.take k).all (fun n=>In n 0 240)=true):zvm l=true:=by
 rw [List.take_of_length_le hk] at hp
 rw [zvm,hp,decide_eq_true h64];rfl
theorem zZd (n:Int) (a:Sl Int) (h:Hp) (ha:a.Ok h):Ct jV 251 [.int .i64 n,a.val] h fun v h'=>v=.bool (In n 0 2880 && zvm a.l)∧h'=h:=by
 have hl:=ha.max
 refine zdn (fun A W=>by simp) Tryz.func251 rfl rfl (by simp) fun W0=>?_
 repeat' first|refine Wa ?_|refine zhF (fun _=>zYZ _ _ _ _) ?_|(simp only [go_sem,jq,jj,jy,jv,jk,jx];try rfl)|refine Wb ?_|fail
 refine zc9 rfl (fun hc=>?_) (fun hc=>?_)
 ·refine Wk ?_
  congr 1
  rcases (jQ _ _).mp hc with h1|h1
  ·rw [Bool.not_eq_true'] at h1;rw [In,h1];rfl
  ·rw [zvm,decide_eq_false (by have:=zjD h1;omega),Bool.false_and,Bool.and_false]
 obtain ⟨h1,h2⟩:=Bool.or_eq_false_iff.1 hc
 rw [Bool.not_eq_false'] at h1
 have h64:a.l.length=64:=by have:=zjE h2;omega
 rw [In,h1,Bool.true_and]
 refine Wk ?_
 refine zde (ι:=Nat) (fun k=>⟨[(15,true,.c (.v a.val)),(16,true,.c (.v (.int .i64 a.l.length))),(17,true,.c (.v (.int .i64 k)))],[],h,0⟩) (fun k=>k≤a.l.length∧(a.l.take k).all (fun n=>In n 0 240)=true) (fun k=>a.l.length - k) 0 ⟨Nat.zero_le _,rfl⟩ ?_ ?_
 ·refine Evs ?_
  exact Gk
 intro k hk
 refine Wk ?_
 refine zc9 rfl (fun hd=>?_) (fun hd=>?_)
 ·have hlt:=zjH hd
  repeat' first|refine Wa ?_|refine zhF (fun _=>zYZ _ _ _ _) ?_|(simp only [go_sem,jq,jj,jy,jv,jk,jx,zkv ha hlt,ha.some hlt,hlt,jW];try rfl)|refine Wb ?_|fail
  refine zc9 rfl (fun hq=>?_) (fun hq=>?_)
  ·rw [Bool.not_eq_true'] at hq
   refine Wk ?_
   rw [zvt hlt hq]
  ·rw [Bool.not_eq_false'] at hq
   refine Wk ?_
   exact ⟨k+1,⟨hlt,zuV hlt hk.2 hq⟩,by omega,zjB (zjA hlt (by omega))⟩
 ·have hge:=zjI hd
  refine Wk ?_
  rw [zvu h64 hge hk.2]
theorem zvv (a:Sl Int) (h:Hp) (ha:a.Ok h):Ct jV 257 [a.val] h fun v h'=>v=.bool (zvm a.l)∧h'=h:=by
 have hl:=ha.max
 refine zdn (fun A W=>by simp) Tryz.func257 rfl rfl (by simp) fun W0=>?_
 refine Wk ?_
 refine zc9 rfl (fun hc=>?_) (fun hc=>?_)
 ·refine Wk ?_
  rw [zvm,decide_eq_false (by have:=zjD hc;omega)];rfl
 have h64:a.l.length=64:=by have:=zjE hc;omega
 refine Wk ?_
 refine zde (ι:=Nat) (fun k=>⟨[(8,true,.c (.v a.val)),(9,true,.c (.v (.int .i64 a.l.length))),(10,true,.c (.v (.int .i64 k)))],[],h,0⟩) (fun k=>k≤a.l.length∧(a.l.take k).all (fun n=>In n 0 240)=true) (fun k=>a.l.length - k) 0 ⟨Nat.zero_le _,rfl⟩ ?_ ?_
 ·refine Evs ?_
  exact Gk
 intro k hk
 refine Wk ?_
 refine zc9 rfl (fun hd=>?_) (fun hd=>?_)
 ·have hlt:=zjH hd
  repeat' first|refine Wa ?_|refine zhF (fun _=>zum _ _ _ _) ?_|(simp only [go_sem,jq,jj,jy,jv,jk,jx,zkv ha hlt,ha.some hlt,hlt,jW];try rfl)|refine Wb ?_|fail
  refine zc9 rfl (fun hq=>?_) (fun hq=>?_)
  ·rw [Bool.not_eq_true'] at hq
   refine Wk ?_
   rw [zvt hlt hq]
  ·rw [Bool.not_eq_false'] at hq
   refine Wk ?_
   exact ⟨k+1,⟨hlt,zuV hlt hk.2 hq⟩,by omega,zjB (zjA hlt (by omega))⟩
 ·have hge:=zjI hd
  refine Wk ?_
  rw [zvu h64 hge hk.2]
theorem zvw (w:DCrew):zvn (Con.con w)=(In w.tugs 0 12 && In w.pilots 0 12 && (In w.rest 0 2880 && zvm w.moves.l)):=by
 rw [zvn,show (Con.con w).moves=w.moves.l from zkr];rfl
theorem zZe (w:DCrew) (h:Hp) (hw:Enc.ok h w):Ct jV 187 [w.v] h fun v h'=>v=.bool (zvn (Con.con w))∧h'=h:=by
 rw [zvw]
 refine zdn (fun A W=>by simp) Tryz.func187 rfl rfl (by simp) fun W0=>?_
 repeat' first|refine Wa ?_|refine zhF (fun _=>zYZ _ _ _ _) ?_|refine zhF (fun _=>zZd _ _ _ hw.2.2.2) ?_|(simp only [go_sem,jq,jj,jy,jv,jk,jx];try rfl)|refine Wb ?_|fail
theorem zvx (w:DCrew) (h:Hp) (hw:Enc.ok h w):Ct jV 195 [w.v] h fun v h'=>v=.bool (zvn (Con.con w))∧h'=h:=by
 rw [zvw]
 refine zdn (fun A W=>by simp) Tryz.func195 rfl rfl (by simp) fun W0=>?_
 repeat' first|refine Wa ?_|refine zhF (fun _=>zum _ _ _ _) ?_|refine zhF (fun _=>zun _ _) ?_|refine zhF (fun _=>zvv _ _ hw.2.2.2) ?_|(simp only [go_sem,jq,jj,jy,jv,jk,jx];try rfl)|refine Wb ?_|fail
 congr 1;rw [Bool.eq_iff_iff];simp only [In,jJ,jQ,Bool.not_eq_true',decide_eq_true_eq,decide_eq_false_iff_not,beq_iff_eq,and_assoc]
theorem zvy (x:DHarbour):zvo (Con.con x)=(zuY (Con.con x.forecast) && zva (Con.con x.chart) && zvk x.fleet.l && zvl x.regime && zvn (Con.con x.crew)):=by
 rw [zvo,show (Con.con x).fleet=x.fleet.l from zu4 _];rfl
theorem zZf (x:DHarbour) (h:Hp) (hx:Enc.ok h x):Ct jV 110 [x.v] h fun v h'=>v=.bool (zvo (Con.con x))∧h'=h:=by
 obtain ⟨o1,o2,o3,o4,o5⟩:=hx
 rw [zvy]
 refine zdn (fun A W=>by simp) Tryz.func110 rfl rfl (by simp) fun W0=>?_
 repeat' first|refine Wa ?_|refine zhF (fun _=>zY5 x.forecast _ o1) ?_|refine zhF (fun _=>zY8 x.chart _ o2) ?_|refine zhF (fun _=>zZb _ _ o3) ?_|refine zhF (fun _=>zZc x.regime _) ?_|refine zhF (fun _=>zZe x.crew _ o5) ?_|(simp only [go_sem,jq,jj,jy,jv,jk,jx];try rfl)|refine Wb ?_|fail
theorem zvz (x:DHarbour) (h:Hp) (hx:Enc.ok h x):Ct jV 115 [x.v] h fun v h'=>v=.bool (zvo (Con.con x))∧h'=h:=by
 obtain ⟨o1,o2,o3,o4,o5⟩:=hx
 rw [zvy]
 refine zdn (fun A W=>by simp) Tryz.func115 rfl rfl (by simp) fun W0=>?_
 repeat' first|refine Wa ?_|refine zhF (fun _=>zu0 x.forecast _ o1) ?_|refine zhF (fun _=>zvh x.chart _ o2) ?_|refine zhF (fun _=>zvr _ _ o3) ?_|refine zhF (fun _=>zvs x.regime _) ?_|refine zhF (fun _=>zvx x.crew _ o5) ?_|(simp only [go_sem,jq,jj,jy,jv,jk,jx];try rfl)|refine Wb ?_|fail
def zvG (s:DShip) (g:DSegment):Int:=if s.slow then IntKind.i64.wrap (2 * g.minutes) else g.minutes
def zvQ (l:List DSurge) (m:Int):Nat→Nat
 | 0=>0
 | k+1=>if (l.getD k dS).src≤m then k else zvQ l m k
def zvR (l:List DSurge) (m:Int):Nat:=zvQ l m l.length
theorem zvS {l:List DSurge} {m:Int}:∀ {k:Nat},0 < k→zvQ l m k < k
 | k+1,_=>by
  unfold zvQ
  split
  ·omega
  ·rcases Nat.eq_zero_or_pos k with rfl|h
   ·exact Nat.zero_lt_one
   ·have:=zvS (l:=l) (m:=m) h;omega
theorem zvT {l:List DSurge} {m:Int} (h:0 < l.length):zvR l m < l.length:=zvS h
theorem zvU {l:List DSurge} {m:Int} {k:Nat} (hk:k < l.length) (h:l[k].src≤m):zvQ l m (k+1)=k:=by rw [zvQ,sget hk,if_pos h]
theorem zvV {l:List DSurge} {m:Int} {k:Nat} (hk:k < l.length) (h:¬ l[k].src≤m):zvQ l m (k+1)=zvQ l m k:=by rw [zvQ,sget hk,if_neg h]
theorem zvW {f:PForecast} (h:zuY f=true):0 < f.surges.length:=by
 simp only [zuY,In,jJ,decide_eq_true_eq] at h
 omega
theorem zvX (f:DForecast):(Con.con f).surges=f.surges.l:=zuZ _
def zvY (n p:Int):Int :=
 if zuG p=true then
  (if n % p < Int.tdiv p 2 then IntKind.i64.wrap (Int.tdiv (IntKind.i64.wrap (IntKind.i64.wrap (40000 * (n % p)) * IntKind.i64.wrap (Int.tdiv p 2 - n % p))) (IntKind.i64.wrap (Int.tdiv p 2 * Int.tdiv p 2)))
   else IntKind.i64.wrap (0 - IntKind.i64.wrap (Int.tdiv (IntKind.i64.wrap (IntKind.i64.wrap (40000 * IntKind.i64.wrap (n % p - Int.tdiv p 2)) * IntKind.i64.wrap (Int.tdiv p 2 - IntKind.i64.wrap (n % p - Int.tdiv p 2)))) (IntKind.i64.wrap (Int.tdiv p 2 * Int.tdiv p 2)))))
 else 0
def zvZ (m:Int) (acc:Int) (p:DPart):Int:=IntKind.i64.wrap (acc+IntKind.i64.wrap (Int.tdiv (IntKind.i64.wrap (p.amp * zvY (IntKind.i64.wrap (m+p.phase)) p.period)) 10000))
def zv0 (t:PTide) (m:Int):Int:=t.parts.foldl (zvZ m) t.mean
def zv1 (f:PForecast) (m:Int):Int:=IntKind.i64.wrap (zv0 f.tide m+(f.surges.getD (zvR f.surges m) dS).low)
theorem zv2 (f:DForecast) (m:Int) (h:Hp) (hf:Enc.ok h f):Ct jV 150 [f.v,.int .i64 m] h fun v h'=>v=.int .i64 (zvR f.surges.l m:Nat)∧h'=h:=by
 have hp:=hf.2
 have hl:=hp.max
 refine zdn (fun A W=>by simp) Tryz.func150 rfl rfl (by simp) fun W0=>?_
 refine Wk ?_
 refine zde (ι:=Nat) (fun k=>⟨[(1,true,.c (.v (.int .i64 m))),(5,true,.c (.v (.int .i64 (zvQ f.surges.l m k:Nat)))),(9,true,.c (.v f.surges.val)),(10,true,.c (.v (.int .i64 f.surges.l.length))),(11,true,.c (.v (.int .i64 k)))],[],h,0⟩) (fun k=>k≤f.surges.l.length) (fun k=>f.surges.l.length - k) 0 (Nat.zero_le _) ?_ ?_
 ·refine Evs ?_
  exact Gk
 intro k hk
 refine Wk ?_
 refine zc9 rfl (fun hdk=>?_) (fun hdk=>?_)
 ·have hlt:=zjH hdk
  repeat' first|refine Wa ?_|(simp only [go_sem,jq,jj,jy,jv,jk,jx,zkM hp hlt,hp.some hlt,hlt,jW];try rfl)|refine Wb ?_|fail
  refine zc9 rfl (fun hq=>?_) (fun hq=>?_)
  ·refine Wk ?_
   refine ⟨k+1,hlt,by omega,zjB ?_,zjB (zjA hlt (by omega))⟩
   rw [zvU hlt (of_decide_eq_true hq)]
  ·refine Wk ?_
   refine ⟨k+1,hlt,by omega,zjB ?_,zjB (zjA hlt (by omega))⟩
   rw [zvV hlt (of_decide_eq_false hq)]
 ·have hge:=zjI hdk
  refine Wk ?_
  rw [zvR,Nat.le_antisymm hge hk]
theorem zZr (f:DForecast) (m:Int) (h:Hp) (hf:Enc.ok h f) (h0:0 < f.surges.l.length):Ct jV 66 [f.v,.int .i64 m] h fun v h'=>v=(f.surges.l.getD (zvR f.surges.l m) dS).v∧h'=h:=by
 have hp:=hf.2
 have hl:=hp.max
 have h0i:(0:Int) < f.surges.l.length:=by omega
 have hp0:=hp.some h0
 have hs0:=zkM hp h0
 simp only [go_sem,Nat.zero_mul] at hs0
 refine Ct.forget ?_
 refine zdn (fun A W=>by simp) Tryz.func66 rfl rfl (by simp) fun W0=>?_
 repeat' first|refine Wa ?_|(simp only [go_sem,jq,jj,jy,jv,jk,jx,hp0,hs0,h0i,Int.toNat_zero,Nat.zero_mul,Int.le_refl,implies_true,true_and,and_true];try rfl)|refine Wb ?_|fail
 refine zde (ι:=Nat) (fun k=>⟨[(1,true,.c (.v (.int .i64 m))),(4,true,.c (.p 1 0)),(5,true,.c (.p 2 0)),(13,true,.c (.v f.surges.val)),(14,true,.c (.v (.int .i64 f.surges.l.length))),(15,true,.c (.v (.int .i64 k)))],[(1,.box 125 [.v (.int .i64 0),.v (.int .i64 0),.v (.int .i64 0)]),(2,.box 125 [.v (.int .i64 (f.surges.l.getD (zvQ f.surges.l m k) dS).src),.v (.int .i64 (f.surges.l.getD (zvQ f.surges.l m k) dS).low),.v (.int .i64 (f.surges.l.getD (zvQ f.surges.l m k) dS).high)])],h,3⟩) (fun k=>k≤f.surges.l.length) (fun k=>f.surges.l.length - k) 0 (Nat.zero_le _) ?_ ?_
 ·refine Evs ?_
  rw [zvQ,sget h0]
  exact Gk
 intro k hk
 refine Wk ?_
 refine zc9 rfl (fun hdk=>?_) (fun hdk=>?_)
 ·have hlt:=zjH hdk
  repeat' first|refine Wa ?_|(simp only [go_sem,jq,jj,jy,jv,jk,jx,zkM hp hlt,hp.some hlt,hlt,jW];try rfl)|refine Wb ?_|fail
  refine zc9 rfl (fun hq=>?_) (fun hq=>?_)
  ·refine Wk ?_
   refine ⟨k+1,hlt,by omega,?_⟩
   rw [zvU hlt (of_decide_eq_true hq),sget hlt]
   refine ⟨zjB (zjA hlt (by omega)),?_⟩
   exact Gk
  ·refine Wk ?_
   refine ⟨k+1,hlt,by omega,?_⟩
   rw [zvV hlt (of_decide_eq_false hq)]
   refine ⟨zjB (zjA hlt (by omega)),?_⟩
   exact Gk
 ·have hge:=zjI hdk
  refine Wk ?_
  rw [zvR,Nat.le_antisymm hge hk]
  try rfl
end Go.Proofs.YtbkaaakphpbmiaaGreat
