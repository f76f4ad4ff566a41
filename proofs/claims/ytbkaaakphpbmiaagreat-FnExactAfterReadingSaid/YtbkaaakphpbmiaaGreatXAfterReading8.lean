/- What functions of the given program compute, as contracts. -/
import Derived.Test.YtbkaaakphpbmiaaGreatSAfterReadingx4
import Derived.Test.YtbkaaakphpbmiaaGreatSAfterReadingx7
import Derived.Test.YtbkaaakphpbmiaaGreatXAfterReading5
import Derived.Test.YtbkaaakphpbmiaaGreatXAfterReading6
set_option linter.unusedVariables false
set_option linter.unusedSimpArgs false
set_option maxRecDepth 4000
open Nat renaming reduceAdd → jq, reduceMul → jj, reduceBEq → jy, reduceLeDiff → jv, reduceLT → jk, reduceEqDiff → jx
open Bool renaming or_eq_false_iff → jp, or_eq_true → jQ, and_eq_true → jJ
open Int renaming toNat_natCast → jW, natCast_nonneg → jY
open Go.Proofs.Tryz renaming prog → jV
namespace Go.Proofs.YtbkaaakphpbmiaaGreat
open Go Go.SL
set_option maxHeartbeats 1000000
theorem zYB (n:Int):bstr [n]=⟨#[UInt8.ofNat n.toNat]⟩:=rfl
theorem zYC (a b:List UInt8):(⟨a.toArray⟩:ByteArray) ++ ⟨b.toArray⟩=⟨(a ++ b).toArray⟩:=by
 ext1
 simp [ByteArray.data_append]
theorem zYD:∀ (f n:Nat) (acc:List UInt8),zlJ f n acc=zlJ f n [] ++ acc
 | 0,_,acc=>rfl
 | f+1,n,acc=>by
  unfold zlJ
  split
  ·rfl
  ·rw [zYD f _ (_ :: acc),zYD f _ [_]];simp
theorem zYE:∀ (f n:Nat),(zlJ f n []).length≤f
 | 0,_=>Nat.le_refl _
 | f+1,n=>by
  unfold zlJ
  split
  ·exact Nat.zero_le _
  ·rw [zYD,List.length_append];have:=zYE f (n / 10);simp only [List.length_cons,List.length_nil];omega
theorem zYF {f:Nat} {acc:List UInt8}:zlJ f 0 acc=acc:=by cases f <;> rfl
theorem zYG (k:Int):(mkT k).size≤65:=by
 unfold mkT
 show (List.toArray _).size≤65
 rw [List.size_toArray,List.length_cons]
 split
 ·simp
 ·have:=zYE 64 k.toNat;omega
theorem zYH (k:Int) (h:Hp) (hk:k≤4611686018427387904):Ct jV 162 [.int .i64 k] h fun v h'=>v=.string (mkT k)∧h'=h:=by
 refine Ct.forget ?_
 refine zdn (fun A W=>by simp) Tryz.func162 rfl rfl (by simp) fun W0=>?_
 refine Wk ?_
 refine zc9 rfl (fun hc=>?_) (fun hc=>?_)
 ·refine Wk ?_
  rw [mkT,if_pos (of_decide_eq_true hc)]
 have hc:=of_decide_eq_false hc
 refine Wk ?_
 refine zl0 (ι:=Nat × Nat × List UInt8) (fun i=>⟨[(0,true,.c (.v (.int .i64 (i.2.1:Int)))),(3,true,.c (.v (.string ⟨i.2.2.toArray⟩)))],[],h,0⟩) (fun i=>zlJ i.1 i.2.1 i.2.2=zlJ 64 k.toNat []∧i.2.1 < 10 ^ i.1∧i.1+i.2.2.length=64∧i.2.1≤4611686018427387904) (fun i=>i.1) (64,k.toNat,[]) ⟨rfl,by simp only;omega,rfl,by simp only;omega⟩ [] ?_ ?_
 ·refine Evs ?_
  refine ⟨zjB ?_,rfl⟩
  omega
 rintro ⟨f,n,acc⟩ ⟨h1,h2,h3,h4⟩
 simp only at h1 h2 h3 h4
 refine Wk ?_
 refine zc9 rfl (fun hd=>?_) (fun hd=>?_)
 ·have hn:0 < n:=by have:=of_decide_eq_true hd;omega
  obtain ⟨f,rfl⟩:∃ f',f=f'+1:=⟨f - 1,by cases f with|zero=>simp at h2;omega|succ f=>rfl⟩
  have hm:Int.tmod (n:Int) 10=((n % 10:Nat):Int):=by rw [Int.tmod_eq_emod_of_nonneg (by omega)];omega
  have hw1:IntKind.i64.wrap (48+((n % 10:Nat):Int))=((48+n % 10:Nat):Int):=by rw [zjz (by omega)];omega
  have hw2:IntKind.u8.wrap ((48+n % 10:Nat):Int)=((48+n % 10:Nat):Int):=by
   have:n % 10 < 10:=Nat.mod_lt _ (by decide)
   show (((48+n % 10:Nat):Int)) % 256=_
   omega
  have hq:Int.tdiv (n:Int) 10=((n / 10:Nat):Int):=by rw [Int.tdiv_eq_ediv_of_nonneg (by omega)];omega
  have hw3:IntKind.i64.wrap ((n / 10:Nat):Int)=((n / 10:Nat):Int):=zjz (by omega)
  refine zc5 ?_
  refine Evs ?_
  refine zc8 ?_
  refine zmR [0,0,0,0,0,4] rfl ?_
  simp only [go_sem,jq,jj,jy,jv,jk,jx,hm,hw1,hw2]
  refine ⟨by decide,?_⟩
  refine zmS (ns:=[((48+n % 10:Nat):Int)]) rfl rfl Tryz.underlying279 Tryz.underlying5 Tryz.underlying9 ?_
  refine Evs ?_
  have hsz:(bstr [((48+n % 10:Nat):Int)]).size=1:=rfl
  refine ⟨by rw [hsz,List.size_toArray];omega,?_⟩
  repeat' first|refine Wa ?_|(simp only [go_sem,jq,jj,jy,jv,jk,jx,hq,hw3];try rfl)|refine Wb ?_|fail
  refine ⟨by decide,?_⟩
  repeat' first|refine Wa ?_|(simp only [go_sem,jq,jj,jy,jv,jk,jx,hq,hw3];try rfl)|refine Wb ?_|fail
  refine ⟨(f,n / 10,UInt8.ofNat (48+n % 10) :: acc),[],⟨?_,?_,?_,?_⟩,by simp only;omega,?_⟩
  ·simp only
   rw [← h1]
   conv=>rhs;unfold zlJ
   rw [if_neg (by omega)]
  ·simp only
   rw [Nat.pow_succ] at h2
   omega
  ·simp only [List.length_cons];omega
  ·simp only;omega
  refine Evs ?_
  refine ⟨?_,rfl⟩
  rw [zYB,jW]
  congr 5
 ·have hn:n=0:=by have:=of_decide_eq_false hd;omega
  subst hn
  rw [zYF] at h1
  refine Wk ?_
  refine ⟨by rw [List.size_toArray];simp;omega,?_⟩
  refine Wk ?_
  rw [mkT,if_neg hc,← h1]
  exact congrArg Value.string (zYC [109] acc)
theorem zYI (s:Sl Int) (k:Int) (h:Hp) (hs:s.Ok h) (ho:Foot.own h s) (hn:(Foot.foot s).Nodup) (hk:0≤k∧k+(Mk.cnt s:Nat)≤4611686018427387904):Cw jV 26 [s.val,.int .i64 k] h (fun b=>b ∈ Foot.foot s) fun v h'=>v=.int .i64 (k+(Mk.cnt s:Nat))∧Enc.ok h' (Mk.put s k)∧Foot.own h' (Mk.put s k):=by
 have hmax:=hs.max
 have hcs:Mk.cnt s=cntL s.l:=rfl
 by_cases hl:s.l=[]
 ·refine zlh (fun A W=>by simp) Tryz.func26 rfl rfl (by simp)  (fun b hb=>Foot.dom ho b hb) fun W0 hW=>?_
  refine Wk ?_
  refine zde (ι:=Unit) (fun _=>⟨[(0,true,.c (.v s.val)),(1,true,.c (.v (.int .i64 k))),(5,true,.c (.v (.int .i64 0)))],[],h,0⟩) (fun _=>True) (fun _=>0) () trivial ?_ ?_
  ·exact Evc
  rintro _ _
  refine Wk ?_
  refine zc9 rfl (fun hc=>?_) (fun hc=>?_)
  ·exact absurd (of_decide_eq_true hc) (by rw [hl];simp)
  ·refine Wk ?_
   refine ⟨by rw [hcs,hl];simp [cntL],⟨(by simp [Mk.put,hl,mkL]),fun hne=>(hne (by simp [Mk.put,hl,mkL])).elim,fun i x hx=>by simp [Mk.put,hl,mkL] at hx,fun x hx=>by simp [Mk.put,hl,mkL] at hx,hs.2.2.2.2⟩,fun hne=>(hne (by simp [Mk.put,hl,mkL])).elim⟩
 obtain ⟨g,e,spare,ha,hb,hsp⟩:=zPe (by decide) hs ho hl
 have hsz:Enc.size Int=1:=rfl
 have hfoot:g ∈ Foot.foot s:=by
  rw [show Foot.foot s=_ from Sl.foot_ne hl]
  simp [Sl.blkOf,ha]
 refine zlh (fun A W=>by simp) Tryz.func26 rfl rfl (by simp)  (fun b hb=>Foot.dom ho b hb) fun W0 hW=>?_
 refine Wk ?_
 refine zde (ι:=Nat × Hp) (fun i=>⟨[(0,true,.c (.v s.val)),(1,true,.c (.v (.int .i64 (k+(cntL (s.l.take i.1):Nat))))),(5,true,.c (.v (.int .i64 i.1)))],[],i.2,0⟩) (fun i=>i.1≤s.l.length∧i.2 g=some (.cells (rowL (mkd s.l k i.1) spare).toArray e (0,0))∧∀ x ∈ mkd s.l k i.1,Enc.ok i.2 x) (fun i=>s.l.length - i.1) (0,h) ⟨Nat.zero_le _,by rw [zO6];exact hb,by rw [zO6];exact hs.2.2.2.1⟩ ?_ ?_
 ·refine Evs ?_
  exact ⟨zjB (by rw [zO0];omega),rfl⟩
 rintro ⟨i,hk'⟩ ⟨hi,hb0,hok⟩
 refine Wk ?_
 refine zc9 rfl (fun hd=>?_) (fun hd=>?_)
 ·have hlt:=zjH hd
  have hcnt:=zO4 hlt
  have hcle:=zO5 (l:=s.l) (i:=i+1)
  have hc:Mk.cnt s.l[i]=1:=rfl
  generalize hκ:k+((cntL (s.l.take i):Nat):Int)=κ
  have hκ0:0≤κ∧κ+1≤4611686018427387904:=by omega
  have hlen:i * 1+1≤(rowL (mkd s.l k i) spare).length:=by rw [zPa,zO8,hsz];omega
  generalize hX:rowL (mkd s.l k i) spare=X0 at hb0 hlen
  refine zc5 ?_
  refine Evs ?_
  refine zc3 ?_
  refine zc8 ?_
  refine zlr [0,0,0,0,1] rfl ?_
  simp only [go_sem,jq,jj,jy,jv,jk,jx,ha,hlt,Option.map_some,za4,Option.isSome_some,jW,Nat.zero_add,Nat.add_zero,List.toList_toArray,Hp.ins_ins]
  refine zlC (by simp only [go_sem]) (by simp only [go_sem]) rfl rfl hb0 (.inr (hW _ hfoot)) (by simp only [List.size_toArray];omega) ?_
  simp only [go_sem,jq,jj,jy,jv,jk,jx,ha,hlt,Option.map_some,za4,Option.isSome_some,jW,Nat.zero_add,Nat.add_zero,List.toList_toArray,Hp.ins_ins]
  refine zc4 rfl ?_
  refine Evs ?_
  rw [zjz (by omega)]
  refine Wk ?_
  refine ⟨(i+1,hk'.ins g (.cells (spl (i * 1) [.int .i64 (κ)] X0).toArray e (0,0))),⟨hlt,?_,fun x hx=>?_⟩,by simp only;omega,?_⟩
  ·rw [← zO9 hlt,← zlH (by rw [zO8];exact hlt),hX]
   simp only
   rw [Hp.ins_same]
   congr 4
   simp only [show k+((cntL (List.take i s.l):Nat):Int)=κ from hκ,Mk.put,Enc.enc]
   try simp only [mkB,Int.add_assoc,Int.reduceAdd]
   try rfl
  ·simp only at hx ⊢
   rw [← zO9 hlt] at hx
   rcases List.mem_or_eq_of_mem_set hx with hx|rfl
   ·exact hok x hx
   ·exact (show I64 (Mk.put (α:=Int) _ _) from by show I64 (_+_);unfold I64;omega)
  ·refine Evs ?_
   exact ⟨zjB (by rw [hcnt,hc];omega),zjB (zjA hlt (by omega))⟩
 ·have hge:=zjI hd
  have hie:i=s.l.length:=Nat.le_antisymm hi hge
  refine Wk ?_
  have hp:mkd s.l k i=(Mk.put s k).l:=zO7 hge
  rw [hp] at hb0 hok
  have hll:(Mk.put s k).l.length=s.l.length:=zlG
  have hsl:=zPd (α:=Int) (h:=hk') (g:=g) (cap:=s.cap) (by decide) hb0 (by rw [hll];exact hs.1) hs.2.2.2.2 hok
  have hsv:(Sl.mk (some ⟨g,0,none⟩) s.cap (Mk.put s k).l:Sl Int)=Mk.put s k:=by rw [← ha];rfl
  rw [hsv] at hsl
  refine ⟨by rw [hie,List.take_length,hcs],hsl,fun _=>⟨⟨g,_,e,ha,hb0,?_⟩,fun x hx=>trivial⟩⟩
  rw [List.size_toArray,zPa,hll,hsp]
  rfl
theorem zYK (c:DCrew) (k:Int) (h:Hp) (hc:Enc.ok h c) (ho:Foot.own h c) (hn:(Foot.foot c).Nodup) (hk:0≤k∧k+(zPt c:Nat)≤4611686018427387904):Cw jV 86 [c.v,.int .i64 k] h (fun b=>b ∈ Foot.foot c) fun v h'=>v=.int .i64 (k+(zPt c:Nat))∧Enc.ok h' (zPs c k)∧Foot.own h' (zPs c k):=by
 have hdom:=fun b hb=>Foot.dom (x:=c) ho b hb
 have hcv:zPt c=Mk.cnt c.moves:=rfl
 have hft:Foot.foot c=Foot.foot c.moves:=rfl
 rw [hft] at hn
 rw [zPh] at ho
 have hmem:∀ b,b ∈ Foot.foot c ↔ b ∈ Foot.foot c.moves:=fun b=>by rw [hft]
 have ok0_0:Enc.ok h c.moves:=hc.2.2.2
 have ow0_0:Foot.own h c.moves:=ho
 have nd0:(Foot.foot c.moves).Nodup:=hn
 refine zlh (fun A W=>by simp) Tryz.func86 rfl rfl (by simp)  hdom fun W0 hW=>?_
 refine zie rfl ?_
 refine Evs ?_
 refine zlr [0,0,0,1] rfl ?_
 refine Evs ?_
 refine zli (x:=⟨jV,W0,h,_⟩) (zYI c.moves (k) _ ok0_0 ow0_0 nd0 (by omega)) rfl (fun b hb=>⟨Foot.dom (x:=c.moves) ow0_0 b hb,.inr (hW b ((hmem b).2 hb))⟩) ?_
 rintro v h0 kp0 ⟨rfl,pk0,pw0⟩
 refine Evs ?_
 repeat' first|refine Wa ?_|(simp only [go_sem,jq,jj,jy,jv,jk,jx];try rfl)|refine zc3 ?_
 exact ⟨by rw [hcv],⟨hc.1,hc.2.1,hc.2.2.1,pk0⟩,pw0⟩
theorem zYL (s:Sl DPart) (k:Int) (h:Hp) (hs:s.Ok h) (ho:Foot.own h s) (hn:(Foot.foot s).Nodup) (hk:0≤k∧k+(Mk.cnt s:Nat)≤4611686018427387904):Cw jV 226 [s.val,.int .i64 k] h (fun b=>b ∈ Foot.foot s) fun v h'=>v=.int .i64 (k+(Mk.cnt s:Nat))∧Enc.ok h' (Mk.put s k)∧Foot.own h' (Mk.put s k):=by
 have hmax:=hs.max
 have hcs:Mk.cnt s=cntL s.l:=rfl
 by_cases hl:s.l=[]
 ·refine zlh (fun A W=>by simp) Tryz.func226 rfl rfl (by simp)  (fun b hb=>Foot.dom ho b hb) fun W0 hW=>?_
  refine Wk ?_
  refine zde (ι:=Unit) (fun _=>⟨[(0,true,.c (.v s.val)),(1,true,.c (.v (.int .i64 k))),(5,true,.c (.v (.int .i64 0)))],[],h,0⟩) (fun _=>True) (fun _=>0) () trivial ?_ ?_
  ·exact Evc
  rintro _ _
  refine Wk ?_
  refine zc9 rfl (fun hc=>?_) (fun hc=>?_)
  ·exact absurd (of_decide_eq_true hc) (by rw [hl];simp)
  ·refine Wk ?_
   refine ⟨by rw [hcs,hl];simp [cntL],⟨(by simp [Mk.put,hl,mkL]),fun hne=>(hne (by simp [Mk.put,hl,mkL])).elim,fun i x hx=>by simp [Mk.put,hl,mkL] at hx,fun x hx=>by simp [Mk.put,hl,mkL] at hx,hs.2.2.2.2⟩,fun hne=>(hne (by simp [Mk.put,hl,mkL])).elim⟩
 obtain ⟨g,e,spare,ha,hb,hsp⟩:=zPe (by decide) hs ho hl
 have hsz:Enc.size DPart=3:=rfl
 have hfoot:g ∈ Foot.foot s:=by
  rw [show Foot.foot s=_ from Sl.foot_ne hl]
  simp [Sl.blkOf,ha]
 refine zlh (fun A W=>by simp) Tryz.func226 rfl rfl (by simp)  (fun b hb=>Foot.dom ho b hb) fun W0 hW=>?_
 refine Wk ?_
 refine zde (ι:=Nat × Hp) (fun i=>⟨[(0,true,.c (.v s.val)),(1,true,.c (.v (.int .i64 (k+(cntL (s.l.take i.1):Nat))))),(5,true,.c (.v (.int .i64 i.1)))],[],i.2,0⟩) (fun i=>i.1≤s.l.length∧i.2 g=some (.cells (rowL (mkd s.l k i.1) spare).toArray e (0,0))∧∀ x ∈ mkd s.l k i.1,Enc.ok i.2 x) (fun i=>s.l.length - i.1) (0,h) ⟨Nat.zero_le _,by rw [zO6];exact hb,by rw [zO6];exact hs.2.2.2.1⟩ ?_ ?_
 ·refine Evs ?_
  exact ⟨zjB (by rw [zO0];omega),rfl⟩
 rintro ⟨i,hk'⟩ ⟨hi,hb0,hok⟩
 refine Wk ?_
 refine zc9 rfl (fun hd=>?_) (fun hd=>?_)
 ·have hlt:=zjH hd
  have hcnt:=zO4 hlt
  have hcle:=zO5 (l:=s.l) (i:=i+1)
  have hc:Mk.cnt s.l[i]=3:=rfl
  generalize hκ:k+((cntL (s.l.take i):Nat):Int)=κ
  have hκ0:0≤κ∧κ+3≤4611686018427387904:=by omega
  have hlen:i * 3+3≤(rowL (mkd s.l k i) spare).length:=by rw [zPa,zO8,hsz];omega
  generalize hX:rowL (mkd s.l k i) spare=X0 at hb0 hlen
  refine zc5 ?_
  refine Evs ?_
  refine zc3 ?_
  refine zc8 ?_
  refine zlr [0,0,0,0,0,1] rfl ?_
  simp only [go_sem,jq,jj,jy,jv,jk,jx,ha,hlt,Option.map_some,za4,Option.isSome_some,jW,Nat.zero_add,Nat.add_zero,List.toList_toArray,Hp.ins_ins]
  refine zlC (by simp only [go_sem]) (by simp only [go_sem]) rfl rfl hb0 (.inr (hW _ hfoot)) (by simp only [List.size_toArray];omega) ?_
  simp only [go_sem,jq,jj,jy,jv,jk,jx,ha,hlt,Option.map_some,za4,Option.isSome_some,jW,Nat.zero_add,Nat.add_zero,List.toList_toArray,Hp.ins_ins]
  refine zie rfl ?_
  refine Evs ?_
  rw [zjz (by omega)]
  have hsl1:(spl (i * 3) [.int .i64 (κ)] X0).length=X0.length:=zlI (by simp only [List.length_cons,List.length_nil];omega)
  refine zlr [0,0,0,0,0,1] rfl ?_
  simp only [go_sem,jq,jj,jy,jv,jk,jx,ha,hlt,Option.map_some,za4,Option.isSome_some,jW,Nat.zero_add,Nat.add_zero,List.toList_toArray,Hp.ins_ins]
  refine zlC (by simp only [go_sem]) (by simp only [go_sem]) rfl rfl Hp.ins_same (.inr (hW _ hfoot)) (by simp only [List.size_toArray,hsl1];omega) ?_
  simp only [go_sem,jq,jj,jy,jv,jk,jx,ha,hlt,Option.map_some,za4,Option.isSome_some,jW,Nat.zero_add,Nat.add_zero,List.toList_toArray,Hp.ins_ins]
  rw [show spl (i * 3+1) [.int .i64 (κ+1)] (spl (i * 3) [.int .i64 (κ)] X0)=spl (i * 3) [.int .i64 (κ),.int .i64 (κ+1)] X0 from zPc (m:=[.int .i64 (κ)]) (by simp only [List.length_cons,List.length_nil];omega)]
  refine zie rfl ?_
  refine Evs ?_
  rw [zjz (by omega)]
  have hsl2:(spl (i * 3) [.int .i64 (κ),.int .i64 (κ+1)] X0).length=X0.length:=zlI (by simp only [List.length_cons,List.length_nil];omega)
  refine zlr [0,0,0,0,0,1] rfl ?_
  simp only [go_sem,jq,jj,jy,jv,jk,jx,ha,hlt,Option.map_some,za4,Option.isSome_some,jW,Nat.zero_add,Nat.add_zero,List.toList_toArray,Hp.ins_ins]
  refine zlC (by simp only [go_sem]) (by simp only [go_sem]) rfl rfl Hp.ins_same (.inr (hW _ hfoot)) (by simp only [List.size_toArray,hsl2];omega) ?_
  simp only [go_sem,jq,jj,jy,jv,jk,jx,ha,hlt,Option.map_some,za4,Option.isSome_some,jW,Nat.zero_add,Nat.add_zero,List.toList_toArray,Hp.ins_ins]
  rw [show spl (i * 3+2) [.int .i64 (κ+1+1)] (spl (i * 3) [.int .i64 (κ),.int .i64 (κ+1)] X0)=spl (i * 3) [.int .i64 (κ),.int .i64 (κ+1),.int .i64 (κ+1+1)] X0 from zPc (m:=[.int .i64 (κ),.int .i64 (κ+1)]) (by simp only [List.length_cons,List.length_nil];omega)]
  refine zc4 rfl ?_
  refine Evs ?_
  rw [zjz (by omega)]
  refine Wk ?_
  refine ⟨(i+1,hk'.ins g (.cells (spl (i * 3) [.int .i64 (κ),.int .i64 (κ+1),.int .i64 (κ+1+1)] X0).toArray e (0,0))),⟨hlt,?_,fun x hx=>?_⟩,by simp only;omega,?_⟩
  ·rw [← zO9 hlt,← zlH (by rw [zO8];exact hlt),hX]
   simp only
   rw [Hp.ins_same]
   congr 4
   simp only [show k+((cntL (List.take i s.l):Nat):Int)=κ from hκ,Mk.put,Enc.enc,DPart.cells]
   try simp only [mkB,Int.add_assoc,Int.reduceAdd]
   try rfl
  ·simp only at hx ⊢
   rw [← zO9 hlt] at hx
   rcases List.mem_or_eq_of_mem_set hx with hx|rfl
   ·exact hok x hx
   ·exact (show I64 _∧I64 _∧I64 _ from by unfold I64;simp only [Mk.put];omega)
  ·refine Evs ?_
   exact ⟨zjB (by rw [hcnt,hc];omega),zjB (zjA hlt (by omega))⟩
 ·have hge:=zjI hd
  have hie:i=s.l.length:=Nat.le_antisymm hi hge
  refine Wk ?_
  have hp:mkd s.l k i=(Mk.put s k).l:=zO7 hge
  rw [hp] at hb0 hok
  have hll:(Mk.put s k).l.length=s.l.length:=zlG
  have hsl:=zPd (α:=DPart) (h:=hk') (g:=g) (cap:=s.cap) (by decide) hb0 (by rw [hll];exact hs.1) hs.2.2.2.2 hok
  have hsv:(Sl.mk (some ⟨g,0,none⟩) s.cap (Mk.put s k).l:Sl DPart)=Mk.put s k:=by rw [← ha];rfl
  rw [hsv] at hsl
  refine ⟨by rw [hie,List.take_length,hcs],hsl,fun _=>⟨⟨g,_,e,ha,hb0,?_⟩,fun x hx=>trivial⟩⟩
  rw [List.size_toArray,zPa,hll,hsp]
  rfl
theorem zYN (s:Sl DPoint) (k:Int) (h:Hp) (hs:s.Ok h) (ho:Foot.own h s) (hn:(Foot.foot s).Nodup) (hk:0≤k∧k+(Mk.cnt s:Nat)≤4611686018427387904):Cw jV 160 [s.val,.int .i64 k] h (fun b=>b ∈ Foot.foot s) fun v h'=>v=.int .i64 (k+(Mk.cnt s:Nat))∧Enc.ok h' (Mk.put s k)∧Foot.own h' (Mk.put s k):=by
 have hmax:=hs.max
 have hcs:Mk.cnt s=cntL s.l:=rfl
 by_cases hl:s.l=[]
 ·refine zlh (fun A W=>by simp) Tryz.func160 rfl rfl (by simp)  (fun b hb=>Foot.dom ho b hb) fun W0 hW=>?_
  refine Wk ?_
  refine zde (ι:=Unit) (fun _=>⟨[(0,true,.c (.v s.val)),(1,true,.c (.v (.int .i64 k))),(5,true,.c (.v (.int .i64 0)))],[],h,0⟩) (fun _=>True) (fun _=>0) () trivial ?_ ?_
  ·exact Evc
  rintro _ _
  refine Wk ?_
  refine zc9 rfl (fun hc=>?_) (fun hc=>?_)
  ·exact absurd (of_decide_eq_true hc) (by rw [hl];simp)
  ·refine Wk ?_
   refine ⟨by rw [hcs,hl];simp [cntL],⟨(by simp [Mk.put,hl,mkL]),fun hne=>(hne (by simp [Mk.put,hl,mkL])).elim,fun i x hx=>by simp [Mk.put,hl,mkL] at hx,fun x hx=>by simp [Mk.put,hl,mkL] at hx,hs.2.2.2.2⟩,fun hne=>(hne (by simp [Mk.put,hl,mkL])).elim⟩
 obtain ⟨g,e,spare,ha,hb,hsp⟩:=zPe (by decide) hs ho hl
 have hsz:Enc.size DPoint=2:=rfl
 have hfoot:g ∈ Foot.foot s:=by
  rw [show Foot.foot s=_ from Sl.foot_ne hl]
  simp [Sl.blkOf,ha]
 refine zlh (fun A W=>by simp) Tryz.func160 rfl rfl (by simp)  (fun b hb=>Foot.dom ho b hb) fun W0 hW=>?_
 refine Wk ?_
 refine zde (ι:=Nat × Hp) (fun i=>⟨[(0,true,.c (.v s.val)),(1,true,.c (.v (.int .i64 (k+(cntL (s.l.take i.1):Nat))))),(5,true,.c (.v (.int .i64 i.1)))],[],i.2,0⟩) (fun i=>i.1≤s.l.length∧i.2 g=some (.cells (rowL (mkd s.l k i.1) spare).toArray e (0,0))∧∀ x ∈ mkd s.l k i.1,Enc.ok i.2 x) (fun i=>s.l.length - i.1) (0,h) ⟨Nat.zero_le _,by rw [zO6];exact hb,by rw [zO6];exact hs.2.2.2.1⟩ ?_ ?_
 ·refine Evs ?_
  exact ⟨zjB (by rw [zO0];omega),rfl⟩
 rintro ⟨i,hk'⟩ ⟨hi,hb0,hok⟩
 refine Wk ?_
 refine zc9 rfl (fun hd=>?_) (fun hd=>?_)
 ·have hlt:=zjH hd
  have hcnt:=zO4 hlt
  have hcle:=zO5 (l:=s.l) (i:=i+1)
  have hc:Mk.cnt s.l[i]=2:=rfl
  generalize hκ:k+((cntL (s.l.take i):Nat):Int)=κ
  have hκ0:0≤κ∧κ+2≤4611686018427387904:=by omega
  have hlen:i * 2+2≤(rowL (mkd s.l k i) spare).length:=by rw [zPa,zO8,hsz];omega
  generalize hX:rowL (mkd s.l k i) spare=X0 at hb0 hlen
  refine zc5 ?_
  refine Evs ?_
  refine zc3 ?_
  refine zc8 ?_
  refine zlr [0,0,0,0,0,0,1] rfl ?_
  simp only [go_sem,jq,jj,jy,jv,jk,jx,ha,hlt,Option.map_some,za4,Option.isSome_some,jW,Nat.zero_add,Nat.add_zero,List.toList_toArray,Hp.ins_ins]
  refine zhF (fun _=>zYH _ _ (by omega)) ?_
  simp only [go_sem,jq,jj,jy,jv,jk,jx,ha,hlt,Option.map_some,za4,Option.isSome_some,jW,Nat.zero_add,Nat.add_zero,List.toList_toArray,Hp.ins_ins]
  refine zlC (by simp only [go_sem]) (by simp only [go_sem]) rfl rfl hb0 (.inr (hW _ hfoot)) (by simp only [List.size_toArray];omega) ?_
  simp only [go_sem,jq,jj,jy,jv,jk,jx,ha,hlt,Option.map_some,za4,Option.isSome_some,jW,Nat.zero_add,Nat.add_zero,List.toList_toArray,Hp.ins_ins]
  refine zie rfl ?_
  refine Evs ?_
  rw [zjz (by omega)]
  have hsl1:(spl (i * 2) [.string (mkT (κ))] X0).length=X0.length:=zlI (by simp only [List.length_cons,List.length_nil];omega)
  refine zlr [0,0,0,0,0,0,0,1] rfl ?_
  simp only [go_sem,jq,jj,jy,jv,jk,jx,ha,hlt,Option.map_some,za4,Option.isSome_some,jW,Nat.zero_add,Nat.add_zero,List.toList_toArray,Hp.ins_ins]
  refine ⟨by decide,?_⟩
  refine zlC (by simp only [go_sem]) (by simp only [go_sem]) rfl rfl Hp.ins_same (.inr (hW _ hfoot)) (by simp only [List.size_toArray,hsl1];omega) ?_
  simp only [go_sem,jq,jj,jy,jv,jk,jx,ha,hlt,Option.map_some,za4,Option.isSome_some,jW,Nat.zero_add,Nat.add_zero,List.toList_toArray,Hp.ins_ins]
  rw [show spl (i * 2+1) [.bool ((κ+1).tmod 3 == 0)] (spl (i * 2) [.string (mkT (κ))] X0)=spl (i * 2) [.string (mkT (κ)),.bool ((κ+1).tmod 3 == 0)] X0 from zPc (m:=[.string (mkT (κ))]) (by simp only [List.length_cons,List.length_nil];omega)]
  refine zc4 rfl ?_
  refine Evs ?_
  rw [zjz (by omega)]
  refine Wk ?_
  refine ⟨(i+1,hk'.ins g (.cells (spl (i * 2) [.string (mkT (κ)),.bool ((κ+1).tmod 3 == 0)] X0).toArray e (0,0))),⟨hlt,?_,fun x hx=>?_⟩,by simp only;omega,?_⟩
  ·rw [← zO9 hlt,← zlH (by rw [zO8];exact hlt),hX]
   simp only
   rw [Hp.ins_same]
   congr 4
   simp only [show k+((cntL (List.take i s.l):Nat):Int)=κ from hκ,Mk.put,Enc.enc,DPoint.cells]
   try simp only [mkB,Int.add_assoc,Int.reduceAdd]
   try rfl
  ·simp only at hx ⊢
   rw [← zO9 hlt] at hx
   rcases List.mem_or_eq_of_mem_set hx with hx|rfl
   ·exact hok x hx
   ·exact (show zks _ from Nat.le_trans (zYG _) (by decide))
  ·refine Evs ?_
   exact ⟨zjB (by rw [hcnt,hc];omega),zjB (zjA hlt (by omega))⟩
 ·have hge:=zjI hd
  have hie:i=s.l.length:=Nat.le_antisymm hi hge
  refine Wk ?_
  have hp:mkd s.l k i=(Mk.put s k).l:=zO7 hge
  rw [hp] at hb0 hok
  have hll:(Mk.put s k).l.length=s.l.length:=zlG
  have hsl:=zPd (α:=DPoint) (h:=hk') (g:=g) (cap:=s.cap) (by decide) hb0 (by rw [hll];exact hs.1) hs.2.2.2.2 hok
  have hsv:(Sl.mk (some ⟨g,0,none⟩) s.cap (Mk.put s k).l:Sl DPoint)=Mk.put s k:=by rw [← ha];rfl
  rw [hsv] at hsl
  refine ⟨by rw [hie,List.take_length,hcs],hsl,fun _=>⟨⟨g,_,e,ha,hb0,?_⟩,fun x hx=>trivial⟩⟩
  rw [List.size_toArray,zPa,hll,hsp]
  rfl
theorem zYO (s:Sl DSegment) (k:Int) (h:Hp) (hs:s.Ok h) (ho:Foot.own h s) (hn:(Foot.foot s).Nodup) (hk:0≤k∧k+(Mk.cnt s:Nat)≤4611686018427387904):Cw jV 161 [s.val,.int .i64 k] h (fun b=>b ∈ Foot.foot s) fun v h'=>v=.int .i64 (k+(Mk.cnt s:Nat))∧Enc.ok h' (Mk.put s k)∧Foot.own h' (Mk.put s k):=by
 have hmax:=hs.max
 have hcs:Mk.cnt s=cntL s.l:=rfl
 by_cases hl:s.l=[]
 ·refine zlh (fun A W=>by simp) Tryz.func161 rfl rfl (by simp)  (fun b hb=>Foot.dom ho b hb) fun W0 hW=>?_
  refine Wk ?_
  refine zde (ι:=Unit) (fun _=>⟨[(0,true,.c (.v s.val)),(1,true,.c (.v (.int .i64 k))),(5,true,.c (.v (.int .i64 0)))],[],h,0⟩) (fun _=>True) (fun _=>0) () trivial ?_ ?_
  ·exact Evc
  rintro _ _
  refine Wk ?_
  refine zc9 rfl (fun hc=>?_) (fun hc=>?_)
  ·exact absurd (of_decide_eq_true hc) (by rw [hl];simp)
  ·refine Wk ?_
   refine ⟨by rw [hcs,hl];simp [cntL],⟨(by simp [Mk.put,hl,mkL]),fun hne=>(hne (by simp [Mk.put,hl,mkL])).elim,fun i x hx=>by simp [Mk.put,hl,mkL] at hx,fun x hx=>by simp [Mk.put,hl,mkL] at hx,hs.2.2.2.2⟩,fun hne=>(hne (by simp [Mk.put,hl,mkL])).elim⟩
 obtain ⟨g,e,spare,ha,hb,hsp⟩:=zPe (by decide) hs ho hl
 have hsz:Enc.size DSegment=5:=rfl
 have hfoot:g ∈ Foot.foot s:=by
  rw [show Foot.foot s=_ from Sl.foot_ne hl]
  simp [Sl.blkOf,ha]
 refine zlh (fun A W=>by simp) Tryz.func161 rfl rfl (by simp)  (fun b hb=>Foot.dom ho b hb) fun W0 hW=>?_
 refine Wk ?_
 refine zde (ι:=Nat × Hp) (fun i=>⟨[(0,true,.c (.v s.val)),(1,true,.c (.v (.int .i64 (k+(cntL (s.l.take i.1):Nat))))),(5,true,.c (.v (.int .i64 i.1)))],[],i.2,0⟩) (fun i=>i.1≤s.l.length∧i.2 g=some (.cells (rowL (mkd s.l k i.1) spare).toArray e (0,0))∧∀ x ∈ mkd s.l k i.1,Enc.ok i.2 x) (fun i=>s.l.length - i.1) (0,h) ⟨Nat.zero_le _,by rw [zO6];exact hb,by rw [zO6];exact hs.2.2.2.1⟩ ?_ ?_
 ·refine Evs ?_
  exact ⟨zjB (by rw [zO0];omega),rfl⟩
 rintro ⟨i,hk'⟩ ⟨hi,hb0,hok⟩
 refine Wk ?_
 refine zc9 rfl (fun hd=>?_) (fun hd=>?_)
 ·have hlt:=zjH hd
  have hcnt:=zO4 hlt
  have hcle:=zO5 (l:=s.l) (i:=i+1)
  have hc:Mk.cnt s.l[i]=5:=rfl
  generalize hκ:k+((cntL (s.l.take i):Nat):Int)=κ
  have hκ0:0≤κ∧κ+5≤4611686018427387904:=by omega
  have hlen:i * 5+5≤(rowL (mkd s.l k i) spare).length:=by rw [zPa,zO8,hsz];omega
  generalize hX:rowL (mkd s.l k i) spare=X0 at hb0 hlen
  refine zc5 ?_
  refine Evs ?_
  refine zc3 ?_
  refine zc8 ?_
  refine zlr [0,0,0,0,0,1] rfl ?_
  simp only [go_sem,jq,jj,jy,jv,jk,jx,ha,hlt,Option.map_some,za4,Option.isSome_some,jW,Nat.zero_add,Nat.add_zero,List.toList_toArray,Hp.ins_ins]
  refine zlC (by simp only [go_sem]) (by simp only [go_sem]) rfl rfl hb0 (.inr (hW _ hfoot)) (by simp only [List.size_toArray];omega) ?_
  simp only [go_sem,jq,jj,jy,jv,jk,jx,ha,hlt,Option.map_some,za4,Option.isSome_some,jW,Nat.zero_add,Nat.add_zero,List.toList_toArray,Hp.ins_ins]
  refine zie rfl ?_
  refine Evs ?_
  rw [zjz (by omega)]
  have hsl1:(spl (i * 5) [.int .i64 (κ)] X0).length=X0.length:=zlI (by simp only [List.length_cons,List.length_nil];omega)
  refine zlr [0,0,0,0,0,1] rfl ?_
  simp only [go_sem,jq,jj,jy,jv,jk,jx,ha,hlt,Option.map_some,za4,Option.isSome_some,jW,Nat.zero_add,Nat.add_zero,List.toList_toArray,Hp.ins_ins]
  refine zlC (by simp only [go_sem]) (by simp only [go_sem]) rfl rfl Hp.ins_same (.inr (hW _ hfoot)) (by simp only [List.size_toArray,hsl1];omega) ?_
  simp only [go_sem,jq,jj,jy,jv,jk,jx,ha,hlt,Option.map_some,za4,Option.isSome_some,jW,Nat.zero_add,Nat.add_zero,List.toList_toArray,Hp.ins_ins]
  rw [show spl (i * 5+1) [.int .i64 (κ+1)] (spl (i * 5) [.int .i64 (κ)] X0)=spl (i * 5) [.int .i64 (κ),.int .i64 (κ+1)] X0 from zPc (m:=[.int .i64 (κ)]) (by simp only [List.length_cons,List.length_nil];omega)]
  refine zie rfl ?_
  refine Evs ?_
  rw [zjz (by omega)]
  have hsl2:(spl (i * 5) [.int .i64 (κ),.int .i64 (κ+1)] X0).length=X0.length:=zlI (by simp only [List.length_cons,List.length_nil];omega)
  refine zlr [0,0,0,0,0,1] rfl ?_
  simp only [go_sem,jq,jj,jy,jv,jk,jx,ha,hlt,Option.map_some,za4,Option.isSome_some,jW,Nat.zero_add,Nat.add_zero,List.toList_toArray,Hp.ins_ins]
  refine zlC (by simp only [go_sem]) (by simp only [go_sem]) rfl rfl Hp.ins_same (.inr (hW _ hfoot)) (by simp only [List.size_toArray,hsl2];omega) ?_
  simp only [go_sem,jq,jj,jy,jv,jk,jx,ha,hlt,Option.map_some,za4,Option.isSome_some,jW,Nat.zero_add,Nat.add_zero,List.toList_toArray,Hp.ins_ins]
  rw [show spl (i * 5+2) [.int .i64 (κ+1+1)] (spl (i * 5) [.int .i64 (κ),.int .i64 (κ+1)] X0)=spl (i * 5) [.int .i64 (κ),.int .i64 (κ+1),.int .i64 (κ+1+1)] X0 from zPc (m:=[.int .i64 (κ),.int .i64 (κ+1)]) (by simp only [List.length_cons,List.length_nil];omega)]
  refine zie rfl ?_
  refine Evs ?_
  rw [zjz (by omega)]
  have hsl3:(spl (i * 5) [.int .i64 (κ),.int .i64 (κ+1),.int .i64 (κ+1+1)] X0).length=X0.length:=zlI (by simp only [List.length_cons,List.length_nil];omega)
  refine zlr [0,0,0,0,0,1] rfl ?_
  simp only [go_sem,jq,jj,jy,jv,jk,jx,ha,hlt,Option.map_some,za4,Option.isSome_some,jW,Nat.zero_add,Nat.add_zero,List.toList_toArray,Hp.ins_ins]
  refine zlC (by simp only [go_sem]) (by simp only [go_sem]) rfl rfl Hp.ins_same (.inr (hW _ hfoot)) (by simp only [List.size_toArray,hsl3];omega) ?_
  simp only [go_sem,jq,jj,jy,jv,jk,jx,ha,hlt,Option.map_some,za4,Option.isSome_some,jW,Nat.zero_add,Nat.add_zero,List.toList_toArray,Hp.ins_ins]
  rw [show spl (i * 5+3) [.int .i64 (κ+1+1+1)] (spl (i * 5) [.int .i64 (κ),.int .i64 (κ+1),.int .i64 (κ+1+1)] X0)=spl (i * 5) [.int .i64 (κ),.int .i64 (κ+1),.int .i64 (κ+1+1),.int .i64 (κ+1+1+1)] X0 from zPc (m:=[.int .i64 (κ),.int .i64 (κ+1),.int .i64 (κ+1+1)]) (by simp only [List.length_cons,List.length_nil];omega)]
  refine zie rfl ?_
  refine Evs ?_
  rw [zjz (by omega)]
  have hsl4:(spl (i * 5) [.int .i64 (κ),.int .i64 (κ+1),.int .i64 (κ+1+1),.int .i64 (κ+1+1+1)] X0).length=X0.length:=zlI (by simp only [List.length_cons,List.length_nil];omega)
  refine zlr [0,0,0,0,0,0,0,1] rfl ?_
  simp only [go_sem,jq,jj,jy,jv,jk,jx,ha,hlt,Option.map_some,za4,Option.isSome_some,jW,Nat.zero_add,Nat.add_zero,List.toList_toArray,Hp.ins_ins]
  refine ⟨by decide,?_⟩
  refine zlC (by simp only [go_sem]) (by simp only [go_sem]) rfl rfl Hp.ins_same (.inr (hW _ hfoot)) (by simp only [List.size_toArray,hsl4];omega) ?_
  simp only [go_sem,jq,jj,jy,jv,jk,jx,ha,hlt,Option.map_some,za4,Option.isSome_some,jW,Nat.zero_add,Nat.add_zero,List.toList_toArray,Hp.ins_ins]
  rw [show spl (i * 5+4) [.bool ((κ+1+1+1+1).tmod 3 == 0)] (spl (i * 5) [.int .i64 (κ),.int .i64 (κ+1),.int .i64 (κ+1+1),.int .i64 (κ+1+1+1)] X0)=spl (i * 5) [.int .i64 (κ),.int .i64 (κ+1),.int .i64 (κ+1+1),.int .i64 (κ+1+1+1),.bool ((κ+1+1+1+1).tmod 3 == 0)] X0 from zPc (m:=[.int .i64 (κ),.int .i64 (κ+1),.int .i64 (κ+1+1),.int .i64 (κ+1+1+1)]) (by simp only [List.length_cons,List.length_nil];omega)]
  refine zc4 rfl ?_
  refine Evs ?_
  rw [zjz (by omega)]
  refine Wk ?_
  refine ⟨(i+1,hk'.ins g (.cells (spl (i * 5) [.int .i64 (κ),.int .i64 (κ+1),.int .i64 (κ+1+1),.int .i64 (κ+1+1+1),.bool ((κ+1+1+1+1).tmod 3 == 0)] X0).toArray e (0,0))),⟨hlt,?_,fun x hx=>?_⟩,by simp only;omega,?_⟩
  ·rw [← zO9 hlt,← zlH (by rw [zO8];exact hlt),hX]
   simp only
   rw [Hp.ins_same]
   congr 4
   simp only [show k+((cntL (List.take i s.l):Nat):Int)=κ from hκ,Mk.put,Enc.enc,DSegment.cells]
   try simp only [mkB,Int.add_assoc,Int.reduceAdd]
   try rfl
  ·simp only at hx ⊢
   rw [← zO9 hlt] at hx
   rcases List.mem_or_eq_of_mem_set hx with hx|rfl
   ·exact hok x hx
   ·exact (show I64 _∧I64 _∧I64 _∧I64 _ from by unfold I64;simp only [Mk.put];omega)
  ·refine Evs ?_
   exact ⟨zjB (by rw [hcnt,hc];omega),zjB (zjA hlt (by omega))⟩
 ·have hge:=zjI hd
  have hie:i=s.l.length:=Nat.le_antisymm hi hge
  refine Wk ?_
  have hp:mkd s.l k i=(Mk.put s k).l:=zO7 hge
  rw [hp] at hb0 hok
  have hll:(Mk.put s k).l.length=s.l.length:=zlG
  have hsl:=zPd (α:=DSegment) (h:=hk') (g:=g) (cap:=s.cap) (by decide) hb0 (by rw [hll];exact hs.1) hs.2.2.2.2 hok
  have hsv:(Sl.mk (some ⟨g,0,none⟩) s.cap (Mk.put s k).l:Sl DSegment)=Mk.put s k:=by rw [← ha];rfl
  rw [hsv] at hsl
  refine ⟨by rw [hie,List.take_length,hcs],hsl,fun _=>⟨⟨g,_,e,ha,hb0,?_⟩,fun x hx=>trivial⟩⟩
  rw [List.size_toArray,zPa,hll,hsp]
  rfl
theorem zYP (s:Sl DShip) (k:Int) (h:Hp) (hs:s.Ok h) (ho:Foot.own h s) (hn:(Foot.foot s).Nodup) (hk:0≤k∧k+(Mk.cnt s:Nat)≤4611686018427387904):Cw jV 85 [s.val,.int .i64 k] h (fun b=>b ∈ Foot.foot s) fun v h'=>v=.int .i64 (k+(Mk.cnt s:Nat))∧Enc.ok h' (Mk.put s k)∧Foot.own h' (Mk.put s k):=by
 have hmax:=hs.max
 have hcs:Mk.cnt s=cntL s.l:=rfl
 by_cases hl:s.l=[]
 ·refine zlh (fun A W=>by simp) Tryz.func85 rfl rfl (by simp)  (fun b hb=>Foot.dom ho b hb) fun W0 hW=>?_
  refine Wk ?_
  refine zde (ι:=Unit) (fun _=>⟨[(0,true,.c (.v s.val)),(1,true,.c (.v (.int .i64 k))),(5,true,.c (.v (.int .i64 0)))],[],h,0⟩) (fun _=>True) (fun _=>0) () trivial ?_ ?_
  ·exact Evc
  rintro _ _
  refine Wk ?_
  refine zc9 rfl (fun hc=>?_) (fun hc=>?_)
  ·exact absurd (of_decide_eq_true hc) (by rw [hl];simp)
  ·refine Wk ?_
   refine ⟨by rw [hcs,hl];simp [cntL],⟨(by simp [Mk.put,hl,mkL]),fun hne=>(hne (by simp [Mk.put,hl,mkL])).elim,fun i x hx=>by simp [Mk.put,hl,mkL] at hx,fun x hx=>by simp [Mk.put,hl,mkL] at hx,hs.2.2.2.2⟩,fun hne=>(hne (by simp [Mk.put,hl,mkL])).elim⟩
 obtain ⟨g,e,spare,ha,hb,hsp⟩:=zPe (by decide) hs ho hl
 have hsz:Enc.size DShip=6:=rfl
 have hfoot:g ∈ Foot.foot s:=by
  rw [show Foot.foot s=_ from Sl.foot_ne hl]
  simp [Sl.blkOf,ha]
 refine zlh (fun A W=>by simp) Tryz.func85 rfl rfl (by simp)  (fun b hb=>Foot.dom ho b hb) fun W0 hW=>?_
 refine Wk ?_
 refine zde (ι:=Nat × Hp) (fun i=>⟨[(0,true,.c (.v s.val)),(1,true,.c (.v (.int .i64 (k+(cntL (s.l.take i.1):Nat))))),(5,true,.c (.v (.int .i64 i.1)))],[],i.2,0⟩) (fun i=>i.1≤s.l.length∧i.2 g=some (.cells (rowL (mkd s.l k i.1) spare).toArray e (0,0))∧∀ x ∈ mkd s.l k i.1,Enc.ok i.2 x) (fun i=>s.l.length - i.1) (0,h) ⟨Nat.zero_le _,by rw [zO6];exact hb,by rw [zO6];exact hs.2.2.2.1⟩ ?_ ?_
 ·refine Evs ?_
  exact ⟨zjB (by rw [zO0];omega),rfl⟩
 rintro ⟨i,hk'⟩ ⟨hi,hb0,hok⟩
 refine Wk ?_
 refine zc9 rfl (fun hd=>?_) (fun hd=>?_)
 ·have hlt:=zjH hd
  have hcnt:=zO4 hlt
  have hcle:=zO5 (l:=s.l) (i:=i+1)
  have hc:Mk.cnt s.l[i]=6:=rfl
  generalize hκ:k+((cntL (s.l.take i):Nat):Int)=κ
  have hκ0:0≤κ∧κ+6≤4611686018427387904:=by omega
  have hlen:i * 6+6≤(rowL (mkd s.l k i) spare).length:=by rw [zPa,zO8,hsz];omega
  generalize hX:rowL (mkd s.l k i) spare=X0 at hb0 hlen
  refine zc5 ?_
  refine Evs ?_
  refine zc3 ?_
  refine zc8 ?_
  refine zlr [0,0,0,0,0,0,1] rfl ?_
  simp only [go_sem,jq,jj,jy,jv,jk,jx,ha,hlt,Option.map_some,za4,Option.isSome_some,jW,Nat.zero_add,Nat.add_zero,List.toList_toArray,Hp.ins_ins]
  refine zhF (fun _=>zYH _ _ (by omega)) ?_
  simp only [go_sem,jq,jj,jy,jv,jk,jx,ha,hlt,Option.map_some,za4,Option.isSome_some,jW,Nat.zero_add,Nat.add_zero,List.toList_toArray,Hp.ins_ins]
  refine zlC (by simp only [go_sem]) (by simp only [go_sem]) rfl rfl hb0 (.inr (hW _ hfoot)) (by simp only [List.size_toArray];omega) ?_
  simp only [go_sem,jq,jj,jy,jv,jk,jx,ha,hlt,Option.map_some,za4,Option.isSome_some,jW,Nat.zero_add,Nat.add_zero,List.toList_toArray,Hp.ins_ins]
  refine zie rfl ?_
  refine Evs ?_
  rw [zjz (by omega)]
  have hsl1:(spl (i * 6) [.string (mkT (κ))] X0).length=X0.length:=zlI (by simp only [List.length_cons,List.length_nil];omega)
  refine zlr [0,0,0,0,0,1] rfl ?_
  simp only [go_sem,jq,jj,jy,jv,jk,jx,ha,hlt,Option.map_some,za4,Option.isSome_some,jW,Nat.zero_add,Nat.add_zero,List.toList_toArray,Hp.ins_ins]
  refine zlC (by simp only [go_sem]) (by simp only [go_sem]) rfl rfl Hp.ins_same (.inr (hW _ hfoot)) (by simp only [List.size_toArray,hsl1];omega) ?_
  simp only [go_sem,jq,jj,jy,jv,jk,jx,ha,hlt,Option.map_some,za4,Option.isSome_some,jW,Nat.zero_add,Nat.add_zero,List.toList_toArray,Hp.ins_ins]
  rw [show spl (i * 6+1) [.int .i64 (κ+1)] (spl (i * 6) [.string (mkT (κ))] X0)=spl (i * 6) [.string (mkT (κ)),.int .i64 (κ+1)] X0 from zPc (m:=[.string (mkT (κ))]) (by simp only [List.length_cons,List.length_nil];omega)]
  refine zie rfl ?_
  refine Evs ?_
  rw [zjz (by omega)]
  have hsl2:(spl (i * 6) [.string (mkT (κ)),.int .i64 (κ+1)] X0).length=X0.length:=zlI (by simp only [List.length_cons,List.length_nil];omega)
  refine zlr [0,0,0,0,0,1] rfl ?_
  simp only [go_sem,jq,jj,jy,jv,jk,jx,ha,hlt,Option.map_some,za4,Option.isSome_some,jW,Nat.zero_add,Nat.add_zero,List.toList_toArray,Hp.ins_ins]
  refine zlC (by simp only [go_sem]) (by simp only [go_sem]) rfl rfl Hp.ins_same (.inr (hW _ hfoot)) (by simp only [List.size_toArray,hsl2];omega) ?_
  simp only [go_sem,jq,jj,jy,jv,jk,jx,ha,hlt,Option.map_some,za4,Option.isSome_some,jW,Nat.zero_add,Nat.add_zero,List.toList_toArray,Hp.ins_ins]
  rw [show spl (i * 6+2) [.int .i64 (κ+1+1)] (spl (i * 6) [.string (mkT (κ)),.int .i64 (κ+1)] X0)=spl (i * 6) [.string (mkT (κ)),.int .i64 (κ+1),.int .i64 (κ+1+1)] X0 from zPc (m:=[.string (mkT (κ)),.int .i64 (κ+1)]) (by simp only [List.length_cons,List.length_nil];omega)]
  refine zie rfl ?_
  refine Evs ?_
  rw [zjz (by omega)]
  have hsl3:(spl (i * 6) [.string (mkT (κ)),.int .i64 (κ+1),.int .i64 (κ+1+1)] X0).length=X0.length:=zlI (by simp only [List.length_cons,List.length_nil];omega)
  refine zlr [0,0,0,0,0,1] rfl ?_
  simp only [go_sem,jq,jj,jy,jv,jk,jx,ha,hlt,Option.map_some,za4,Option.isSome_some,jW,Nat.zero_add,Nat.add_zero,List.toList_toArray,Hp.ins_ins]
  refine zlC (by simp only [go_sem]) (by simp only [go_sem]) rfl rfl Hp.ins_same (.inr (hW _ hfoot)) (by simp only [List.size_toArray,hsl3];omega) ?_
  simp only [go_sem,jq,jj,jy,jv,jk,jx,ha,hlt,Option.map_some,za4,Option.isSome_some,jW,Nat.zero_add,Nat.add_zero,List.toList_toArray,Hp.ins_ins]
  rw [show spl (i * 6+3) [.int .i64 (κ+1+1+1)] (spl (i * 6) [.string (mkT (κ)),.int .i64 (κ+1),.int .i64 (κ+1+1)] X0)=spl (i * 6) [.string (mkT (κ)),.int .i64 (κ+1),.int .i64 (κ+1+1),.int .i64 (κ+1+1+1)] X0 from zPc (m:=[.string (mkT (κ)),.int .i64 (κ+1),.int .i64 (κ+1+1)]) (by simp only [List.length_cons,List.length_nil];omega)]
  refine zie rfl ?_
  refine Evs ?_
  rw [zjz (by omega)]
  have hsl4:(spl (i * 6) [.string (mkT (κ)),.int .i64 (κ+1),.int .i64 (κ+1+1),.int .i64 (κ+1+1+1)] X0).length=X0.length:=zlI (by simp only [List.length_cons,List.length_nil];omega)
  refine zlr [0,0,0,0,0,1] rfl ?_
  simp only [go_sem,jq,jj,jy,jv,jk,jx,ha,hlt,Option.map_some,za4,Option.isSome_some,jW,Nat.zero_add,Nat.add_zero,List.toList_toArray,Hp.ins_ins]
  refine zlC (by simp only [go_sem]) (by simp only [go_sem]) rfl rfl Hp.ins_same (.inr (hW _ hfoot)) (by simp only [List.size_toArray,hsl4];omega) ?_
  simp only [go_sem,jq,jj,jy,jv,jk,jx,ha,hlt,Option.map_some,za4,Option.isSome_some,jW,Nat.zero_add,Nat.add_zero,List.toList_toArray,Hp.ins_ins]
  rw [show spl (i * 6+4) [.int .i64 (κ+1+1+1+1)] (spl (i * 6) [.string (mkT (κ)),.int .i64 (κ+1),.int .i64 (κ+1+1),.int .i64 (κ+1+1+1)] X0)=spl (i * 6) [.string (mkT (κ)),.int .i64 (κ+1),.int .i64 (κ+1+1),.int .i64 (κ+1+1+1),.int .i64 (κ+1+1+1+1)] X0 from zPc (m:=[.string (mkT (κ)),.int .i64 (κ+1),.int .i64 (κ+1+1),.int .i64 (κ+1+1+1)]) (by simp only [List.length_cons,List.length_nil];omega)]
  refine zie rfl ?_
  refine Evs ?_
  rw [zjz (by omega)]
  have hsl5:(spl (i * 6) [.string (mkT (κ)),.int .i64 (κ+1),.int .i64 (κ+1+1),.int .i64 (κ+1+1+1),.int .i64 (κ+1+1+1+1)] X0).length=X0.length:=zlI (by simp only [List.length_cons,List.length_nil];omega)
  refine zlr [0,0,0,0,0,0,0,1] rfl ?_
  simp only [go_sem,jq,jj,jy,jv,jk,jx,ha,hlt,Option.map_some,za4,Option.isSome_some,jW,Nat.zero_add,Nat.add_zero,List.toList_toArray,Hp.ins_ins]
  refine ⟨by decide,?_⟩
  refine zlC (by simp only [go_sem]) (by simp only [go_sem]) rfl rfl Hp.ins_same (.inr (hW _ hfoot)) (by simp only [List.size_toArray,hsl5];omega) ?_
  simp only [go_sem,jq,jj,jy,jv,jk,jx,ha,hlt,Option.map_some,za4,Option.isSome_some,jW,Nat.zero_add,Nat.add_zero,List.toList_toArray,Hp.ins_ins]
  rw [show spl (i * 6+5) [.bool ((κ+1+1+1+1+1).tmod 3 == 0)] (spl (i * 6) [.string (mkT (κ)),.int .i64 (κ+1),.int .i64 (κ+1+1),.int .i64 (κ+1+1+1),.int .i64 (κ+1+1+1+1)] X0)=spl (i * 6) [.string (mkT (κ)),.int .i64 (κ+1),.int .i64 (κ+1+1),.int .i64 (κ+1+1+1),.int .i64 (κ+1+1+1+1),.bool ((κ+1+1+1+1+1).tmod 3 == 0)] X0 from zPc (m:=[.string (mkT (κ)),.int .i64 (κ+1),.int .i64 (κ+1+1),.int .i64 (κ+1+1+1),.int .i64 (κ+1+1+1+1)]) (by simp only [List.length_cons,List.length_nil];omega)]
  refine zc4 rfl ?_
  refine Evs ?_
  rw [zjz (by omega)]
  refine Wk ?_
  refine ⟨(i+1,hk'.ins g (.cells (spl (i * 6) [.string (mkT (κ)),.int .i64 (κ+1),.int .i64 (κ+1+1),.int .i64 (κ+1+1+1),.int .i64 (κ+1+1+1+1),.bool ((κ+1+1+1+1+1).tmod 3 == 0)] X0).toArray e (0,0))),⟨hlt,?_,fun x hx=>?_⟩,by simp only;omega,?_⟩
  ·rw [← zO9 hlt,← zlH (by rw [zO8];exact hlt),hX]
   simp only
   rw [Hp.ins_same]
   congr 4
   simp only [show k+((cntL (List.take i s.l):Nat):Int)=κ from hκ,Mk.put,Enc.enc,DShip.cells]
   try simp only [mkB,Int.add_assoc,Int.reduceAdd]
   try rfl
  ·simp only at hx ⊢
   rw [← zO9 hlt] at hx
   rcases List.mem_or_eq_of_mem_set hx with hx|rfl
   ·exact hok x hx
   ·exact (show zks _∧I64 _∧I64 _∧I64 _∧I64 _ from ⟨Nat.le_trans (zYG _) (by decide),(by unfold I64;simp only [Mk.put];omega),(by unfold I64;simp only [Mk.put];omega),(by unfold I64;simp only [Mk.put];omega),(by unfold I64;simp only [Mk.put];omega)⟩)
  ·refine Evs ?_
   exact ⟨zjB (by rw [hcnt,hc];omega),zjB (zjA hlt (by omega))⟩
 ·have hge:=zjI hd
  have hie:i=s.l.length:=Nat.le_antisymm hi hge
  refine Wk ?_
  have hp:mkd s.l k i=(Mk.put s k).l:=zO7 hge
  rw [hp] at hb0 hok
  have hll:(Mk.put s k).l.length=s.l.length:=zlG
  have hsl:=zPd (α:=DShip) (h:=hk') (g:=g) (cap:=s.cap) (by decide) hb0 (by rw [hll];exact hs.1) hs.2.2.2.2 hok
  have hsv:(Sl.mk (some ⟨g,0,none⟩) s.cap (Mk.put s k).l:Sl DShip)=Mk.put s k:=by rw [← ha];rfl
  rw [hsv] at hsl
  refine ⟨by rw [hie,List.take_length,hcs],hsl,fun _=>⟨⟨g,_,e,ha,hb0,?_⟩,fun x hx=>trivial⟩⟩
  rw [List.size_toArray,zPa,hll,hsp]
  rfl
theorem zYQ (s:Sl DSurge) (k:Int) (h:Hp) (hs:s.Ok h) (ho:Foot.own h s) (hn:(Foot.foot s).Nodup) (hk:0≤k∧k+(Mk.cnt s:Nat)≤4611686018427387904):Cw jV 159 [s.val,.int .i64 k] h (fun b=>b ∈ Foot.foot s) fun v h'=>v=.int .i64 (k+(Mk.cnt s:Nat))∧Enc.ok h' (Mk.put s k)∧Foot.own h' (Mk.put s k):=by
 have hmax:=hs.max
 have hcs:Mk.cnt s=cntL s.l:=rfl
 by_cases hl:s.l=[]
 ·refine zlh (fun A W=>by simp) Tryz.func159 rfl rfl (by simp)  (fun b hb=>Foot.dom ho b hb) fun W0 hW=>?_
  refine Wk ?_
  refine zde (ι:=Unit) (fun _=>⟨[(0,true,.c (.v s.val)),(1,true,.c (.v (.int .i64 k))),(5,true,.c (.v (.int .i64 0)))],[],h,0⟩) (fun _=>True) (fun _=>0) () trivial ?_ ?_
  ·exact Evc
  rintro _ _
  refine Wk ?_
  refine zc9 rfl (fun hc=>?_) (fun hc=>?_)
  ·exact absurd (of_decide_eq_true hc) (by rw [hl];simp)
  ·refine Wk ?_
   refine ⟨by rw [hcs,hl];simp [cntL],⟨(by simp [Mk.put,hl,mkL]),fun hne=>(hne (by simp [Mk.put,hl,mkL])).elim,fun i x hx=>by simp [Mk.put,hl,mkL] at hx,fun x hx=>by simp [Mk.put,hl,mkL] at hx,hs.2.2.2.2⟩,fun hne=>(hne (by simp [Mk.put,hl,mkL])).elim⟩
 obtain ⟨g,e,spare,ha,hb,hsp⟩:=zPe (by decide) hs ho hl
 have hsz:Enc.size DSurge=3:=rfl
 have hfoot:g ∈ Foot.foot s:=by
  rw [show Foot.foot s=_ from Sl.foot_ne hl]
  simp [Sl.blkOf,ha]
 refine zlh (fun A W=>by simp) Tryz.func159 rfl rfl (by simp)  (fun b hb=>Foot.dom ho b hb) fun W0 hW=>?_
 refine Wk ?_
 refine zde (ι:=Nat × Hp) (fun i=>⟨[(0,true,.c (.v s.val)),(1,true,.c (.v (.int .i64 (k+(cntL (s.l.take i.1):Nat))))),(5,true,.c (.v (.int .i64 i.1)))],[],i.2,0⟩) (fun i=>i.1≤s.l.length∧i.2 g=some (.cells (rowL (mkd s.l k i.1) spare).toArray e (0,0))∧∀ x ∈ mkd s.l k i.1,Enc.ok i.2 x) (fun i=>s.l.length - i.1) (0,h) ⟨Nat.zero_le _,by rw [zO6];exact hb,by rw [zO6];exact hs.2.2.2.1⟩ ?_ ?_
 ·refine Evs ?_
  exact ⟨zjB (by rw [zO0];omega),rfl⟩
 rintro ⟨i,hk'⟩ ⟨hi,hb0,hok⟩
 refine Wk ?_
 refine zc9 rfl (fun hd=>?_) (fun hd=>?_)
 ·have hlt:=zjH hd
  have hcnt:=zO4 hlt
  have hcle:=zO5 (l:=s.l) (i:=i+1)
  have hc:Mk.cnt s.l[i]=3:=rfl
  generalize hκ:k+((cntL (s.l.take i):Nat):Int)=κ
  have hκ0:0≤κ∧κ+3≤4611686018427387904:=by omega
  have hlen:i * 3+3≤(rowL (mkd s.l k i) spare).length:=by rw [zPa,zO8,hsz];omega
  generalize hX:rowL (mkd s.l k i) spare=X0 at hb0 hlen
  refine zc5 ?_
  refine Evs ?_
  refine zc3 ?_
  refine zc8 ?_
  refine zlr [0,0,0,0,0,1] rfl ?_
  simp only [go_sem,jq,jj,jy,jv,jk,jx,ha,hlt,Option.map_some,za4,Option.isSome_some,jW,Nat.zero_add,Nat.add_zero,List.toList_toArray,Hp.ins_ins]
  refine zlC (by simp only [go_sem]) (by simp only [go_sem]) rfl rfl hb0 (.inr (hW _ hfoot)) (by simp only [List.size_toArray];omega) ?_
  simp only [go_sem,jq,jj,jy,jv,jk,jx,ha,hlt,Option.map_some,za4,Option.isSome_some,jW,Nat.zero_add,Nat.add_zero,List.toList_toArray,Hp.ins_ins]
  refine zie rfl ?_
  refine Evs ?_
  rw [zjz (by omega)]
  have hsl1:(spl (i * 3) [.int .i64 (κ)] X0).length=X0.length:=zlI (by simp only [List.length_cons,List.length_nil];omega)
  refine zlr [0,0,0,0,0,1] rfl ?_
  simp only [go_sem,jq,jj,jy,jv,jk,jx,ha,hlt,Option.map_some,za4,Option.isSome_some,jW,Nat.zero_add,Nat.add_zero,List.toList_toArray,Hp.ins_ins]
  refine zlC (by simp only [go_sem]) (by simp only [go_sem]) rfl rfl Hp.ins_same (.inr (hW _ hfoot)) (by simp only [List.size_toArray,hsl1];omega) ?_
  simp only [go_sem,jq,jj,jy,jv,jk,jx,ha,hlt,Option.map_some,za4,Option.isSome_some,jW,Nat.zero_add,Nat.add_zero,List.toList_toArray,Hp.ins_ins]
  rw [show spl (i * 3+1) [.int .i64 (κ+1)] (spl (i * 3) [.int .i64 (κ)] X0)=spl (i * 3) [.int .i64 (κ),.int .i64 (κ+1)] X0 from zPc (m:=[.int .i64 (κ)]) (by simp only [List.length_cons,List.length_nil];omega)]
  refine zie rfl ?_
  refine Evs ?_
  rw [zjz (by omega)]
  have hsl2:(spl (i * 3) [.int .i64 (κ),.int .i64 (κ+1)] X0).length=X0.length:=zlI (by simp only [List.length_cons,List.length_nil];omega)
  refine zlr [0,0,0,0,0,1] rfl ?_
  simp only [go_sem,jq,jj,jy,jv,jk,jx,ha,hlt,Option.map_some,za4,Option.isSome_some,jW,Nat.zero_add,Nat.add_zero,List.toList_toArray,Hp.ins_ins]
  refine zlC (by simp only [go_sem]) (by simp only [go_sem]) rfl rfl Hp.ins_same (.inr (hW _ hfoot)) (by simp only [List.size_toArray,hsl2];omega) ?_
  simp only [go_sem,jq,jj,jy,jv,jk,jx,ha,hlt,Option.map_some,za4,Option.isSome_some,jW,Nat.zero_add,Nat.add_zero,List.toList_toArray,Hp.ins_ins]
  rw [show spl (i * 3+2) [.int .i64 (κ+1+1)] (spl (i * 3) [.int .i64 (κ),.int .i64 (κ+1)] X0)=spl (i * 3) [.int .i64 (κ),.int .i64 (κ+1),.int .i64 (κ+1+1)] X0 from zPc (m:=[.int .i64 (κ),.int .i64 (κ+1)]) (by simp only [List.length_cons,List.length_nil];omega)]
  refine zc4 rfl ?_
  refine Evs ?_
  rw [zjz (by omega)]
  refine Wk ?_
  refine ⟨(i+1,hk'.ins g (.cells (spl (i * 3) [.int .i64 (κ),.int .i64 (κ+1),.int .i64 (κ+1+1)] X0).toArray e (0,0))),⟨hlt,?_,fun x hx=>?_⟩,by simp only;omega,?_⟩
  ·rw [← zO9 hlt,← zlH (by rw [zO8];exact hlt),hX]
   simp only
   rw [Hp.ins_same]
   congr 4
   simp only [show k+((cntL (List.take i s.l):Nat):Int)=κ from hκ,Mk.put,Enc.enc,DSurge.cells]
   try simp only [mkB,Int.add_assoc,Int.reduceAdd]
   try rfl
  ·simp only at hx ⊢
   rw [← zO9 hlt] at hx
   rcases List.mem_or_eq_of_mem_set hx with hx|rfl
   ·exact hok x hx
   ·exact (show I64 _∧I64 _∧I64 _ from by unfold I64;simp only [Mk.put];omega)
  ·refine Evs ?_
   exact ⟨zjB (by rw [hcnt,hc];omega),zjB (zjA hlt (by omega))⟩
 ·have hge:=zjI hd
  have hie:i=s.l.length:=Nat.le_antisymm hi hge
  refine Wk ?_
  have hp:mkd s.l k i=(Mk.put s k).l:=zO7 hge
  rw [hp] at hb0 hok
  have hll:(Mk.put s k).l.length=s.l.length:=zlG
  have hsl:=zPd (α:=DSurge) (h:=hk') (g:=g) (cap:=s.cap) (by decide) hb0 (by rw [hll];exact hs.1) hs.2.2.2.2 hok
  have hsv:(Sl.mk (some ⟨g,0,none⟩) s.cap (Mk.put s k).l:Sl DSurge)=Mk.put s k:=by rw [← ha];rfl
  rw [hsv] at hsl
  refine ⟨by rw [hie,List.take_length,hcs],hsl,fun _=>⟨⟨g,_,e,ha,hb0,?_⟩,fun x hx=>trivial⟩⟩
  rw [List.size_toArray,zPa,hll,hsp]
  rfl
theorem zYR (c:DChart) (k:Int) (h:Hp) (hc:Enc.ok h c) (ho:Foot.own h c) (hn:(Foot.foot c).Nodup) (hk:0≤k∧k+(zPz c:Nat)≤4611686018427387904):Cw jV 84 [c.v,.int .i64 k] h (fun b=>b ∈ Foot.foot c) fun v h'=>v=.int .i64 (k+(zPz c:Nat))∧Enc.ok h' (zPy c k)∧Foot.own h' (zPy c k):=by
 have hdom:=fun b hb=>Foot.dom (x:=c) ho b hb
 have hcv:zPz c=Mk.cnt c.points+Mk.cnt c.segments:=rfl
 have hft:Foot.foot c=Foot.foot c.points ++ Foot.foot c.segments:=rfl
 rw [hft] at hn
 rw [zPn] at ho
 have hmem:∀ b,b ∈ Foot.foot c ↔ b ∈ Foot.foot c.points∨b ∈ Foot.foot c.segments:=fun b=>by rw [hft];simp only [List.mem_append,or_assoc]
 simp only [List.nodup_append,List.mem_append] at hn
 have ok0_0:Enc.ok h c.points:=hc.1
 have ow0_0:Foot.own h c.points:=ho.1
 have nd0:(Foot.foot c.points).Nodup:=hn.1
 have ok1_0:Enc.ok h c.segments:=hc.2
 have ow1_0:Foot.own h c.segments:=ho.2
 have nd1:(Foot.foot c.segments).Nodup:=hn.2.1
 have ds1_0:∀ b ∈ Foot.foot c.segments,¬ (b ∈ Foot.foot c.points):=fun b hi hq=>hn.2.2 b hq b hi rfl
 refine zlh (fun A W=>by simp) Tryz.func84 rfl rfl (by simp)  hdom fun W0 hW=>?_
 refine zie rfl ?_
 refine Evs ?_
 refine zlr [0,0,0,1] rfl ?_
 refine Evs ?_
 refine zli (x:=⟨jV,W0,h,_⟩) (zYN c.points (k) _ ok0_0 ow0_0 nd0 (by omega)) rfl (fun b hb=>⟨Foot.dom (x:=c.points) ow0_0 b hb,.inr (hW b ((hmem b).2 (Or.inl hb)))⟩) ?_
 rintro v h0 kp0 ⟨rfl,pk0,pw0⟩
 obtain ⟨ok1_1,ow1_1⟩:=ok_keep (x:=c.segments) ok1_0 ow1_0 ds1_0 kp0
 refine Evs ?_
 refine zlr [0,0,0,1] rfl ?_
 refine Evs ?_
 refine zli (x:=⟨jV,W0,h,_⟩) (zYO c.segments (k+(Mk.cnt c.points:Nat)) _ ok1_1 ow1_1 nd1 (by omega)) rfl (fun b hb=>⟨Foot.dom (x:=c.segments) ow1_1 b hb,.inr (hW b ((hmem b).2 (Or.inr hb)))⟩) ?_
 rintro v h1 kp1 ⟨rfl,pk1,pw1⟩
 have kk0_2:=ok_keep pk0 pw0 (fun b hb hi=>ds1_0 b hi (by rw [MkOk.foot] at hb;exact hb)) kp1
 obtain ⟨pk0_2,pw0_2⟩:=kk0_2
 refine Evs ?_
 repeat' first|refine Wa ?_|(simp only [go_sem,jq,jj,jy,jv,jk,jx];try rfl)|refine zc3 ?_
 exact ⟨by rw [hcv];congr 1;omega,⟨pk0_2,pk1⟩,⟨pw0_2,pw1⟩⟩
theorem zYT (c:DTide) (k:Int) (h:Hp) (hc:Enc.ok h c) (ho:Foot.own h c) (hn:(Foot.foot c).Nodup) (hk:0≤k∧k+(zPv c:Nat)≤4611686018427387904):Cw jV 158 [c.v,.int .i64 k] h (fun b=>b ∈ Foot.foot c) fun v h'=>v=.int .i64 (k+(zPv c:Nat))∧Enc.ok h' (zPu c k)∧Foot.own h' (zPu c k):=by
 have hdom:=fun b hb=>Foot.dom (x:=c) ho b hb
 have hcv:zPv c=Mk.cnt c.parts:=rfl
 have hft:Foot.foot c=Foot.foot c.parts:=rfl
 rw [hft] at hn
 rw [zPj] at ho
 have hmem:∀ b,b ∈ Foot.foot c ↔ b ∈ Foot.foot c.parts:=fun b=>by rw [hft]
 have ok0_0:Enc.ok h c.parts:=hc.2
 have ow0_0:Foot.own h c.parts:=ho
 have nd0:(Foot.foot c.parts).Nodup:=hn
 refine zlh (fun A W=>by simp) Tryz.func158 rfl rfl (by simp)  hdom fun W0 hW=>?_
 refine zie rfl ?_
 refine Evs ?_
 refine zlr [0,0,0,1] rfl ?_
 refine Evs ?_
 refine zli (x:=⟨jV,W0,h,_⟩) (zYL c.parts (k) _ ok0_0 ow0_0 nd0 (by omega)) rfl (fun b hb=>⟨Foot.dom (x:=c.parts) ow0_0 b hb,.inr (hW b ((hmem b).2 hb))⟩) ?_
 rintro v h0 kp0 ⟨rfl,pk0,pw0⟩
 refine Evs ?_
 repeat' first|refine Wa ?_|(simp only [go_sem,jq,jj,jy,jv,jk,jx];try rfl)|refine zc3 ?_
 exact ⟨by rw [hcv],⟨hc.1,pk0⟩,pw0⟩
theorem zYU (c:DForecast) (k:Int) (h:Hp) (hc:Enc.ok h c) (ho:Foot.own h c) (hn:(Foot.foot c).Nodup) (hk:0≤k∧k+(zPx c:Nat)≤4611686018427387904):Cw jV 83 [c.v,.int .i64 k] h (fun b=>b ∈ Foot.foot c) fun v h'=>v=.int .i64 (k+(zPx c:Nat))∧Enc.ok h' (zPw c k)∧Foot.own h' (zPw c k):=by
 have hdom:=fun b hb=>Foot.dom (x:=c) ho b hb
 have hcv:zPx c=zPv c.tide+Mk.cnt c.surges:=rfl
 have hft:Foot.foot c=Foot.foot c.tide ++ Foot.foot c.surges:=rfl
 rw [hft] at hn
 rw [zPl] at ho
 have hmem:∀ b,b ∈ Foot.foot c ↔ b ∈ Foot.foot c.tide∨b ∈ Foot.foot c.surges:=fun b=>by rw [hft];simp only [List.mem_append,or_assoc]
 simp only [List.nodup_append,List.mem_append] at hn
 have ok0_0:Enc.ok h c.tide:=hc.1
 have ow0_0:Foot.own h c.tide:=ho.1
 have nd0:(Foot.foot c.tide).Nodup:=hn.1
 have ok1_0:Enc.ok h c.surges:=hc.2
 have ow1_0:Foot.own h c.surges:=ho.2
 have nd1:(Foot.foot c.surges).Nodup:=hn.2.1
 have ds1_0:∀ b ∈ Foot.foot c.surges,¬ (b ∈ Foot.foot c.tide):=fun b hi hq=>hn.2.2 b hq b hi rfl
 refine zlh (fun A W=>by simp) Tryz.func83 rfl rfl (by simp)  hdom fun W0 hW=>?_
 refine zie rfl ?_
 refine Evs ?_
 refine zlr [0,0,0,1] rfl ?_
 refine Evs ?_
 refine zli (x:=⟨jV,W0,h,_⟩) (zYT c.tide (k) _ ok0_0 ow0_0 nd0 (by omega)) rfl (fun b hb=>⟨Foot.dom (x:=c.tide) ow0_0 b hb,.inr (hW b ((hmem b).2 (Or.inl hb)))⟩) ?_
 rintro v h0 kp0 ⟨rfl,pk0,pw0⟩
 obtain ⟨ok1_1,ow1_1⟩:=ok_keep (x:=c.surges) ok1_0 ow1_0 ds1_0 kp0
 refine Evs ?_
 refine zlr [0,0,0,1] rfl ?_
 refine Evs ?_
 refine zli (x:=⟨jV,W0,h,_⟩) (zYQ c.surges (k+(zPv c.tide:Nat)) _ ok1_1 ow1_1 nd1 (by omega)) rfl (fun b hb=>⟨Foot.dom (x:=c.surges) ow1_1 b hb,.inr (hW b ((hmem b).2 (Or.inr hb)))⟩) ?_
 rintro v h1 kp1 ⟨rfl,pk1,pw1⟩
 have kk0_2:=ok_keep pk0 pw0 (fun b hb hi=>ds1_0 b hi (by rw [zPQ] at hb;exact hb)) kp1
 obtain ⟨pk0_2,pw0_2⟩:=kk0_2
 refine Evs ?_
 repeat' first|refine Wa ?_|(simp only [go_sem,jq,jj,jy,jv,jk,jx];try rfl)|refine zc3 ?_
 exact ⟨by rw [hcv];congr 1;omega,⟨pk0_2,pk1⟩,⟨pw0_2,pw1⟩⟩
theorem zYV (c:DHarbour) (k:Int) (h:Hp) (hc:Enc.ok h c) (ho:Foot.own h c) (hn:(Foot.foot c).Nodup) (hk:0≤k∧k+(zPB c:Nat)≤4611686018427387904):Cw jV 24 [c.v,.int .i64 k] h (fun b=>b ∈ Foot.foot c) fun v h'=>v=.int .i64 (k+(zPB c:Nat))∧Enc.ok h' (zPA c k)∧Foot.own h' (zPA c k):=by
 have hdom:=fun b hb=>Foot.dom (x:=c) ho b hb
 have hcv:zPB c=zPx c.forecast+zPz c.chart+Mk.cnt c.fleet+zPt c.crew:=rfl
 have hft:Foot.foot c=Foot.foot c.forecast ++ Foot.foot c.chart ++ Foot.foot c.fleet ++ Foot.foot c.crew:=rfl
 rw [hft] at hn
 rw [zPp] at ho
 have hmem:∀ b,b ∈ Foot.foot c ↔ b ∈ Foot.foot c.forecast∨b ∈ Foot.foot c.chart∨b ∈ Foot.foot c.fleet∨b ∈ Foot.foot c.crew:=fun b=>by rw [hft];simp only [List.mem_append,or_assoc]
 simp only [List.nodup_append,List.mem_append] at hn
 have ok0_0:Enc.ok h c.forecast:=hc.1
 have ow0_0:Foot.own h c.forecast:=ho.1
 have nd0:(Foot.foot c.forecast).Nodup:=hn.1.1.1
 have ok1_0:Enc.ok h c.chart:=hc.2.1
 have ow1_0:Foot.own h c.chart:=ho.2.1
 have nd1:(Foot.foot c.chart).Nodup:=hn.1.1.2.1
 have ds1_0:∀ b ∈ Foot.foot c.chart,¬ (b ∈ Foot.foot c.forecast):=fun b hi hq=>hn.1.1.2.2 b hq b hi rfl
 have ok2_0:Enc.ok h c.fleet:=hc.2.2.1
 have ow2_0:Foot.own h c.fleet:=ho.2.2.1
 have nd2:(Foot.foot c.fleet).Nodup:=hn.1.2.1
 have ds2_0:∀ b ∈ Foot.foot c.fleet,¬ (b ∈ Foot.foot c.forecast):=fun b hi hq=>hn.1.2.2 b (Or.inl hq) b hi rfl
 have ds2_1:∀ b ∈ Foot.foot c.fleet,¬ (b ∈ Foot.foot c.chart):=fun b hi hq=>hn.1.2.2 b (Or.inr hq) b hi rfl
 have ok3_0:Enc.ok h c.crew:=hc.2.2.2.2
 have ow3_0:Foot.own h c.crew:=ho.2.2.2
 have nd3:(Foot.foot c.crew).Nodup:=hn.2.1
 have ds3_0:∀ b ∈ Foot.foot c.crew,¬ (b ∈ Foot.foot c.forecast):=fun b hi hq=>hn.2.2 b (Or.inl (Or.inl hq)) b hi rfl
 have ds3_1:∀ b ∈ Foot.foot c.crew,¬ (b ∈ Foot.foot c.chart):=fun b hi hq=>hn.2.2 b (Or.inl (Or.inr hq)) b hi rfl
 have ds3_2:∀ b ∈ Foot.foot c.crew,¬ (b ∈ Foot.foot c.fleet):=fun b hi hq=>hn.2.2 b (Or.inr hq) b hi rfl
 refine zlh (fun A W=>by simp) Tryz.func24 rfl rfl (by simp)  hdom fun W0 hW=>?_
 refine zie rfl ?_
 refine Evs ?_
 refine zlr [0,0,0,1] rfl ?_
 refine Evs ?_
 refine zli (x:=⟨jV,W0,h,_⟩) (zYU c.forecast (k) _ ok0_0 ow0_0 nd0 (by omega)) rfl (fun b hb=>⟨Foot.dom (x:=c.forecast) ow0_0 b hb,.inr (hW b ((hmem b).2 (Or.inl hb)))⟩) ?_
 rintro v h0 kp0 ⟨rfl,pk0,pw0⟩
 obtain ⟨ok1_1,ow1_1⟩:=ok_keep (x:=c.chart) ok1_0 ow1_0 ds1_0 kp0
 obtain ⟨ok2_1,ow2_1⟩:=ok_keep (x:=c.fleet) ok2_0 ow2_0 ds2_0 kp0
 obtain ⟨ok3_1,ow3_1⟩:=ok_keep (x:=c.crew) ok3_0 ow3_0 ds3_0 kp0
 refine Evs ?_
 refine zlr [0,0,0,1] rfl ?_
 refine Evs ?_
 refine zli (x:=⟨jV,W0,h,_⟩) (zYR c.chart (k+(zPx c.forecast:Nat)) _ ok1_1 ow1_1 nd1 (by omega)) rfl (fun b hb=>⟨Foot.dom (x:=c.chart) ow1_1 b hb,.inr (hW b ((hmem b).2 (Or.inr (Or.inl hb))))⟩) ?_
 rintro v h1 kp1 ⟨rfl,pk1,pw1⟩
 have kk0_2:=ok_keep pk0 pw0 (fun b hb hi=>ds1_0 b hi (by rw [zPS] at hb;exact hb)) kp1
 obtain ⟨pk0_2,pw0_2⟩:=kk0_2
 obtain ⟨ok2_2,ow2_2⟩:=ok_keep (x:=c.fleet) ok2_1 ow2_1 ds2_1 kp1
 obtain ⟨ok3_2,ow3_2⟩:=ok_keep (x:=c.crew) ok3_1 ow3_1 ds3_1 kp1
 refine Evs ?_
 refine zlr [0,0,0,1] rfl ?_
 refine Evs ?_
 refine zli (x:=⟨jV,W0,h,_⟩) (zYP c.fleet (k+(zPx c.forecast:Nat)+(zPz c.chart:Nat)) _ ok2_2 ow2_2 nd2 (by omega)) rfl (fun b hb=>⟨Foot.dom (x:=c.fleet) ow2_2 b hb,.inr (hW b ((hmem b).2 (Or.inr (Or.inr (Or.inl hb)))))⟩) ?_
 rintro v h2 kp2 ⟨rfl,pk2,pw2⟩
 have kk0_3:=ok_keep pk0_2 pw0_2 (fun b hb hi=>ds2_0 b hi (by rw [zPS] at hb;exact hb)) kp2
 obtain ⟨pk0_3,pw0_3⟩:=kk0_3
 have kk1_3:=ok_keep pk1 pw1 (fun b hb hi=>ds2_1 b hi (by rw [zPU] at hb;exact hb)) kp2
 obtain ⟨pk1_3,pw1_3⟩:=kk1_3
 obtain ⟨ok3_3,ow3_3⟩:=ok_keep (x:=c.crew) ok3_2 ow3_2 ds3_2 kp2
 refine Evs ?_
 refine zlr [0,0,0,1] rfl ?_
 refine Evs ?_
 refine zli (x:=⟨jV,W0,h,_⟩) (zYK c.crew (k+(zPx c.forecast:Nat)+(zPz c.chart:Nat)+(Mk.cnt c.fleet:Nat)) _ ok3_3 ow3_3 nd3 (by omega)) rfl (fun b hb=>⟨Foot.dom (x:=c.crew) ow3_3 b hb,.inr (hW b ((hmem b).2 (Or.inr (Or.inr (Or.inr hb)))))⟩) ?_
 rintro v h3 kp3 ⟨rfl,pk3,pw3⟩
 have kk0_4:=ok_keep pk0_3 pw0_3 (fun b hb hi=>ds3_0 b hi (by rw [zPS] at hb;exact hb)) kp3
 obtain ⟨pk0_4,pw0_4⟩:=kk0_4
 have kk1_4:=ok_keep pk1_3 pw1_3 (fun b hb hi=>ds3_1 b hi (by rw [zPU] at hb;exact hb)) kp3
 obtain ⟨pk1_4,pw1_4⟩:=kk1_4
 have kk2_4:=ok_keep pk2 pw2 (fun b hb hi=>ds3_2 b hi (by rw [MkOk.foot] at hb;exact hb)) kp3
 obtain ⟨pk2_4,pw2_4⟩:=kk2_4
 refine Evs ?_
 repeat' first|refine Wa ?_|(simp only [go_sem,jq,jj,jy,jv,jk,jx];try rfl)|refine zc3 ?_
 exact ⟨by rw [hcv];congr 1;omega,⟨pk0_4,pk1_4,pk2_4,hc.2.2.2.1,pk3⟩,⟨pw0_4,pw1_4,pw2_4,pw3⟩⟩
theorem zYW (s:Sl Int) (k:Int) (h:Hp) (hs:s.Ok h) (hm:mkL s.l k=s.l) (hk:0≤k∧k+(Mk.cnt s:Nat)≤4611686018427387904):Ct jV 59 [s.val,.int .i64 k] h fun v h'=>v=.int .i64 (k+(Mk.cnt s:Nat))∧h'=h:=by
 have hmax:=hs.max
 have hcs:Mk.cnt s=cntL s.l:=rfl
 refine zdn (fun A W=>by simp) Tryz.func59 rfl rfl (by simp) fun W0=>?_
 refine Wk ?_
 refine zde (ι:=Nat) (fun i=>⟨[(0,true,.c (.v s.val)),(1,true,.c (.v (.int .i64 (k+(cntL (s.l.take i):Nat))))),(5,true,.c (.v (.int .i64 i)))],[],h,0⟩) (fun i=>i≤s.l.length) (fun i=>s.l.length - i) 0 (Nat.zero_le _) ?_ ?_
 ·refine Evs ?_
  exact ⟨zjB (by rw [zO0];omega),rfl⟩
 intro i hi
 refine Wk ?_
 refine zc9 rfl (fun hd=>?_) (fun hd=>?_)
 ·have hlt:=zjH hd
  have hcnt:=zO4 hlt
  have hcle:=zO5 (l:=s.l) (i:=i+1)
  have hx:=zPD hm hlt
  generalize hκ:k+((cntL (s.l.take i):Nat):Int)=κ at hx
  have hκ0:0≤κ∧κ+(Mk.cnt s.l[i]:Nat)≤4611686018427387904:=by omega
  have hc:Mk.cnt s.l[i]=1:=rfl
  have hf:s.l[i]=κ:=hx
  repeat' first|refine Wa ?_|(simp only [go_sem,jq,jj,jy,jv,jk,jx,zkv hs hlt,hs.some hlt,hlt,jW];try rfl)|refine zc3 ?_
  refine zc9 rfl (fun hq=>?_) (fun hq=>?_)
  ·exact absurd hf (zjD hq)
  refine zc5 ?_
  refine Evs ?_
  refine zc4 rfl ?_
  refine Evs ?_
  rw [zjz (by omega)]
  refine Wk ?_
  exact ⟨i+1,hlt,by omega,zjB (by rw [hcnt,hc];omega),zjB (zjA hlt (by omega))⟩
 ·have hge:=zjI hd
  have hie:i=s.l.length:=Nat.le_antisymm hi hge
  refine Wk ?_
  rw [hie,List.take_length,hcs]
theorem z1S (c:DCrew) (k:Int) (h:Hp) (hc:Enc.ok h c) (hm:zPs c k=c) (hk:0≤k∧k+(zPt c:Nat)≤4611686018427387904):Ct jV 120 [c.v,.int .i64 k] h fun v h'=>v=.int .i64 (k+(zPt c:Nat))∧h'=h:=by
 have hcv:zPt c=Mk.cnt c.moves:=rfl
 have hf0:mkL c.moves.l (k)=c.moves.l:=congrArg (fun z=>(DCrew.moves z).l) hm
 refine zdn (fun A W=>by simp) Tryz.func120 rfl rfl (by simp) fun W0=>?_
 repeat' first|refine Wa ?_|refine zhF (fun _=>zYW _ _ _ hc.2.2.2 hf0 (by omega)) ?_|(simp only [go_sem,jq,jj,jy,jv,jk,jx];try rfl)|refine Wb ?_|fail
 refine zc9 rfl (fun hq=>?_) (fun hq=>?_)
 ·exact absurd (of_decide_eq_true hq) (by omega)
 exact Wk0
theorem z1T (s:Sl DPart) (k:Int) (h:Hp) (hs:s.Ok h) (hm:mkL s.l k=s.l) (hk:0≤k∧k+(Mk.cnt s:Nat)≤4611686018427387904):Ct jV 258 [s.val,.int .i64 k] h fun v h'=>v=.int .i64 (k+(Mk.cnt s:Nat))∧h'=h:=by
 have hmax:=hs.max
 have hcs:Mk.cnt s=cntL s.l:=rfl
 refine zdn (fun A W=>by simp) Tryz.func258 rfl rfl (by simp) fun W0=>?_
 refine Wk ?_
 refine zde (ι:=Nat) (fun i=>⟨[(0,true,.c (.v s.val)),(1,true,.c (.v (.int .i64 (k+(cntL (s.l.take i):Nat))))),(5,true,.c (.v (.int .i64 i)))],[],h,0⟩) (fun i=>i≤s.l.length) (fun i=>s.l.length - i) 0 (Nat.zero_le _) ?_ ?_
 ·refine Evs ?_
  exact ⟨zjB (by rw [zO0];omega),rfl⟩
 intro i hi
 refine Wk ?_
 refine zc9 rfl (fun hd=>?_) (fun hd=>?_)
 ·have hlt:=zjH hd
  have hcnt:=zO4 hlt
  have hcle:=zO5 (l:=s.l) (i:=i+1)
  have hx:=zPD hm hlt
  generalize hκ:k+((cntL (s.l.take i):Nat):Int)=κ at hx
  have hκ0:0≤κ∧κ+(Mk.cnt s.l[i]:Nat)≤4611686018427387904:=by omega
  have hc:Mk.cnt s.l[i]=3:=rfl
  have hf0:s.l[i].amp=κ:=(congrArg DPart.amp hx).trans (by simp only [Mk.put])
  have hf1:s.l[i].period=κ+1:=(congrArg DPart.period hx).trans (by simp only [Mk.put])
  have hf2:s.l[i].phase=κ+1+1:=(congrArg DPart.phase hx).trans (by simp only [Mk.put];try omega)
  repeat' first|refine Wa ?_|(simp only [go_sem,jq,jj,jy,jv,jk,jx,z1C hs hlt,hs.some hlt,hlt,jW];try rfl)|refine zc3 ?_
  refine zc9 rfl (fun hq=>?_) (fun hq=>?_)
  ·exact absurd hf0 (zjD hq)
  refine zc5 ?_
  refine Evs ?_
  refine zie rfl ?_
  refine Evs ?_
  rw [zjz (by omega)]
  repeat' first|refine Wa ?_|(simp only [go_sem,jq,jj,jy,jv,jk,jx,z1C hs hlt,hs.some hlt,hlt,jW];try rfl)|refine zc3 ?_
  refine zc9 rfl (fun hq=>?_) (fun hq=>?_)
  ·exact absurd hf1 (zjD hq)
  refine zc5 ?_
  refine Evs ?_
  refine zie rfl ?_
  refine Evs ?_
  rw [zjz (by omega)]
  repeat' first|refine Wa ?_|(simp only [go_sem,jq,jj,jy,jv,jk,jx,z1C hs hlt,hs.some hlt,hlt,jW];try rfl)|refine zc3 ?_
  refine zc9 rfl (fun hq=>?_) (fun hq=>?_)
  ·exact absurd hf2 (zjD hq)
  refine zc5 ?_
  refine Evs ?_
  refine zc4 rfl ?_
  refine Evs ?_
  rw [zjz (by omega)]
  refine Wk ?_
  exact ⟨i+1,hlt,by omega,zjB (by rw [hcnt,hc];omega),zjB (zjA hlt (by omega))⟩
 ·have hge:=zjI hd
  have hie:i=s.l.length:=Nat.le_antisymm hi hge
  refine Wk ?_
  rw [hie,List.take_length,hcs]
theorem z1U (s:Sl DPoint) (k:Int) (h:Hp) (hs:s.Ok h) (hm:mkL s.l k=s.l) (hk:0≤k∧k+(Mk.cnt s:Nat)≤4611686018427387904):Ct jV 202 [s.val,.int .i64 k] h fun v h'=>v=.int .i64 (k+(Mk.cnt s:Nat))∧h'=h:=by
 have hmax:=hs.max
 have hcs:Mk.cnt s=cntL s.l:=rfl
 refine zdn (fun A W=>by simp) Tryz.func202 rfl rfl (by simp) fun W0=>?_
 refine Wk ?_
 refine zde (ι:=Nat) (fun i=>⟨[(0,true,.c (.v s.val)),(1,true,.c (.v (.int .i64 (k+(cntL (s.l.take i):Nat))))),(5,true,.c (.v (.int .i64 i)))],[],h,0⟩) (fun i=>i≤s.l.length) (fun i=>s.l.length - i) 0 (Nat.zero_le _) ?_ ?_
 ·refine Evs ?_
  exact ⟨zjB (by rw [zO0];omega),rfl⟩
 intro i hi
 refine Wk ?_
 refine zc9 rfl (fun hd=>?_) (fun hd=>?_)
 ·have hlt:=zjH hd
  have hcnt:=zO4 hlt
  have hcle:=zO5 (l:=s.l) (i:=i+1)
  have hx:=zPD hm hlt
  generalize hκ:k+((cntL (s.l.take i):Nat):Int)=κ at hx
  have hκ0:0≤κ∧κ+(Mk.cnt s.l[i]:Nat)≤4611686018427387904:=by omega
  have hc:Mk.cnt s.l[i]=2:=rfl
  have hf0:s.l[i].name=mkT (κ):=(congrArg DPoint.name hx).trans (by simp only [Mk.put,Int.add_assoc,Int.reduceAdd])
  have hf1:s.l[i].wait=((κ+1).tmod 3 == 0):=(congrArg DPoint.wait hx).trans (by simp only [Mk.put,mkB,Int.add_assoc,Int.reduceAdd])
  repeat' first|refine Wa ?_|(simp only [go_sem,jq,jj,jy,jv,jk,jx,zlR hs hlt,hs.some hlt,hlt,jW];try rfl)|refine zc3 ?_
  refine ziV rfl ?_
  refine zi3 [0,1,2,3,4,5] rfl (by kernel_rfl) ?_
  simp only [go_sem,jq,jj,jy,jv,jk,jx,zlR hs hlt,hs.some hlt,hlt,jW]
  refine ziT [6] (by kernel_rfl) (by kernel_rfl) ?_
  simp only [go_sem,jq,jj,jy,jv,jk,jx,zlR hs hlt,hs.some hlt,hlt,jW]
  refine zhF (fun _=>zYH _ _ (by omega)) ?_
  simp only [go_sem,jq,jj,jy,jv,jk,jx,zlR hs hlt,hs.some hlt,hlt,jW]
  refine zi3 [7] rfl (by kernel_rfl) ?_
  refine Evs ?_
  refine ziU (by kernel_rfl) ?_
  refine Wk ?_
  refine zc9 rfl (fun hq=>?_) (fun hq=>?_)
  ·exact absurd hf0 (fun e=>by rw [e] at hq;simp at hq)
  refine zc5 ?_
  refine Evs ?_
  refine zie rfl ?_
  refine Evs ?_
  rw [zjz (by omega)]
  repeat' first|refine Wa ?_|(simp only [go_sem,jq,jj,jy,jv,jk,jx,zlR hs hlt,hs.some hlt,hlt,jW];try rfl)|refine zc3 ?_
  refine ⟨by decide,?_⟩
  repeat' first|refine Wa ?_|(simp only [go_sem,jq,jj,jy,jv,jk,jx,zlR hs hlt,hs.some hlt,hlt,jW];try rfl)|refine zc3 ?_
  refine zc9 rfl (fun hq=>?_) (fun hq=>?_)
  ·exact absurd hf1 (zjD hq)
  refine zc5 ?_
  refine Evs ?_
  refine zc4 rfl ?_
  refine Evs ?_
  rw [zjz (by omega)]
  refine Wk ?_
  exact ⟨i+1,hlt,by omega,zjB (by rw [hcnt,hc];omega),zjB (zjA hlt (by omega))⟩
 ·have hge:=zjI hd
  have hie:i=s.l.length:=Nat.le_antisymm hi hge
  refine Wk ?_
  rw [hie,List.take_length,hcs]
theorem z1V (s:Sl DSegment) (k:Int) (h:Hp) (hs:s.Ok h) (hm:mkL s.l k=s.l) (hk:0≤k∧k+(Mk.cnt s:Nat)≤4611686018427387904):Ct jV 203 [s.val,.int .i64 k] h fun v h'=>v=.int .i64 (k+(Mk.cnt s:Nat))∧h'=h:=by
 have hmax:=hs.max
 have hcs:Mk.cnt s=cntL s.l:=rfl
 refine zdn (fun A W=>by simp) Tryz.func203 rfl rfl (by simp) fun W0=>?_
 refine Wk ?_
 refine zde (ι:=Nat) (fun i=>⟨[(0,true,.c (.v s.val)),(1,true,.c (.v (.int .i64 (k+(cntL (s.l.take i):Nat))))),(5,true,.c (.v (.int .i64 i)))],[],h,0⟩) (fun i=>i≤s.l.length) (fun i=>s.l.length - i) 0 (Nat.zero_le _) ?_ ?_
 ·refine Evs ?_
  exact ⟨zjB (by rw [zO0];omega),rfl⟩
 intro i hi
 refine Wk ?_
 refine zc9 rfl (fun hd=>?_) (fun hd=>?_)
 ·have hlt:=zjH hd
  have hcnt:=zO4 hlt
  have hcle:=zO5 (l:=s.l) (i:=i+1)
  have hx:=zPD hm hlt
  generalize hκ:k+((cntL (s.l.take i):Nat):Int)=κ at hx
  have hκ0:0≤κ∧κ+(Mk.cnt s.l[i]:Nat)≤4611686018427387904:=by omega
  have hc:Mk.cnt s.l[i]=5:=rfl
  have hf0:s.l[i].a=κ:=(congrArg DSegment.a hx).trans (by simp only [Mk.put])
  have hf1:s.l[i].b=κ+1:=(congrArg DSegment.b hx).trans (by simp only [Mk.put])
  have hf2:s.l[i].depth=κ+1+1:=(congrArg DSegment.depth hx).trans (by simp only [Mk.put];try omega)
  have hf3:s.l[i].minutes=κ+1+1+1:=(congrArg DSegment.minutes hx).trans (by simp only [Mk.put];try omega)
  have hf4:s.l[i].meet=((κ+1+1+1+1).tmod 3 == 0):=(congrArg DSegment.meet hx).trans (by simp only [Mk.put,mkB,Int.add_assoc,Int.reduceAdd])
  repeat' first|refine Wa ?_|(simp only [go_sem,jq,jj,jy,jv,jk,jx,zlS hs hlt,hs.some hlt,hlt,jW];try rfl)|refine zc3 ?_
  refine zc9 rfl (fun hq=>?_) (fun hq=>?_)
  ·exact absurd hf0 (zjD hq)
  refine zc5 ?_
  refine Evs ?_
  refine zie rfl ?_
  refine Evs ?_
  rw [zjz (by omega)]
  repeat' first|refine Wa ?_|(simp only [go_sem,jq,jj,jy,jv,jk,jx,zlS hs hlt,hs.some hlt,hlt,jW];try rfl)|refine zc3 ?_
  refine zc9 rfl (fun hq=>?_) (fun hq=>?_)
  ·exact absurd hf1 (zjD hq)
  refine zc5 ?_
  refine Evs ?_
  refine zie rfl ?_
  refine Evs ?_
  rw [zjz (by omega)]
  repeat' first|refine Wa ?_|(simp only [go_sem,jq,jj,jy,jv,jk,jx,zlS hs hlt,hs.some hlt,hlt,jW];try rfl)|refine zc3 ?_
  refine zc9 rfl (fun hq=>?_) (fun hq=>?_)
  ·exact absurd hf2 (zjD hq)
  refine zc5 ?_
  refine Evs ?_
  refine zie rfl ?_
  refine Evs ?_
  rw [zjz (by omega)]
  repeat' first|refine Wa ?_|(simp only [go_sem,jq,jj,jy,jv,jk,jx,zlS hs hlt,hs.some hlt,hlt,jW];try rfl)|refine zc3 ?_
  refine zc9 rfl (fun hq=>?_) (fun hq=>?_)
  ·exact absurd hf3 (zjD hq)
  refine zc5 ?_
  refine Evs ?_
  refine zie rfl ?_
  refine Evs ?_
  rw [zjz (by omega)]
  repeat' first|refine Wa ?_|(simp only [go_sem,jq,jj,jy,jv,jk,jx,zlS hs hlt,hs.some hlt,hlt,jW];try rfl)|refine zc3 ?_
  refine ⟨by decide,?_⟩
  repeat' first|refine Wa ?_|(simp only [go_sem,jq,jj,jy,jv,jk,jx,zlS hs hlt,hs.some hlt,hlt,jW];try rfl)|refine zc3 ?_
  refine zc9 rfl (fun hq=>?_) (fun hq=>?_)
  ·exact absurd hf4 (zjD hq)
  refine zc5 ?_
  refine Evs ?_
  refine zc4 rfl ?_
  refine Evs ?_
  rw [zjz (by omega)]
  refine Wk ?_
  exact ⟨i+1,hlt,by omega,zjB (by rw [hcnt,hc];omega),zjB (zjA hlt (by omega))⟩
 ·have hge:=zjI hd
  have hie:i=s.l.length:=Nat.le_antisymm hi hge
  refine Wk ?_
  rw [hie,List.take_length,hcs]
theorem z1W (s:Sl DShip) (k:Int) (h:Hp) (hs:s.Ok h) (hm:mkL s.l k=s.l) (hk:0≤k∧k+(Mk.cnt s:Nat)≤4611686018427387904):Ct jV 119 [s.val,.int .i64 k] h fun v h'=>v=.int .i64 (k+(Mk.cnt s:Nat))∧h'=h:=by
 have hmax:=hs.max
 have hcs:Mk.cnt s=cntL s.l:=rfl
 refine zdn (fun A W=>by simp) Tryz.func119 rfl rfl (by simp) fun W0=>?_
 refine Wk ?_
 refine zde (ι:=Nat) (fun i=>⟨[(0,true,.c (.v s.val)),(1,true,.c (.v (.int .i64 (k+(cntL (s.l.take i):Nat))))),(5,true,.c (.v (.int .i64 i)))],[],h,0⟩) (fun i=>i≤s.l.length) (fun i=>s.l.length - i) 0 (Nat.zero_le _) ?_ ?_
 ·refine Evs ?_
  exact ⟨zjB (by rw [zO0];omega),rfl⟩
 intro i hi
 refine Wk ?_
 refine zc9 rfl (fun hd=>?_) (fun hd=>?_)
 ·have hlt:=zjH hd
  have hcnt:=zO4 hlt
  have hcle:=zO5 (l:=s.l) (i:=i+1)
  have hx:=zPD hm hlt
  generalize hκ:k+((cntL (s.l.take i):Nat):Int)=κ at hx
  have hκ0:0≤κ∧κ+(Mk.cnt s.l[i]:Nat)≤4611686018427387904:=by omega
  have hc:Mk.cnt s.l[i]=6:=rfl
  have hf0:s.l[i].name=mkT (κ):=(congrArg DShip.name hx).trans (by simp only [Mk.put,Int.add_assoc,Int.reduceAdd])
  have hf1:s.l[i].length=κ+1:=(congrArg DShip.length hx).trans (by simp only [Mk.put])
  have hf2:s.l[i].draught=κ+1+1:=(congrArg DShip.draught hx).trans (by simp only [Mk.put];try omega)
  have hf3:s.l[i].line=κ+1+1+1:=(congrArg DShip.line hx).trans (by simp only [Mk.put];try omega)
  have hf4:s.l[i].tugs=κ+1+1+1+1:=(congrArg DShip.tugs hx).trans (by simp only [Mk.put];try omega)
  have hf5:s.l[i].slow=((κ+1+1+1+1+1).tmod 3 == 0):=(congrArg DShip.slow hx).trans (by simp only [Mk.put,mkB,Int.add_assoc,Int.reduceAdd])
  repeat' first|refine Wa ?_|(simp only [go_sem,jq,jj,jy,jv,jk,jx,zlT hs hlt,hs.some hlt,hlt,jW];try rfl)|refine zc3 ?_
  refine ziV rfl ?_
  refine zi3 [0,1,2,3,4,5] rfl (by kernel_rfl) ?_
  simp only [go_sem,jq,jj,jy,jv,jk,jx,zlT hs hlt,hs.some hlt,hlt,jW]
  refine ziT [6] (by kernel_rfl) (by kernel_rfl) ?_
  simp only [go_sem,jq,jj,jy,jv,jk,jx,zlT hs hlt,hs.some hlt,hlt,jW]
  refine zhF (fun _=>zYH _ _ (by omega)) ?_
  simp only [go_sem,jq,jj,jy,jv,jk,jx,zlT hs hlt,hs.some hlt,hlt,jW]
  refine zi3 [7] rfl (by kernel_rfl) ?_
  refine Evs ?_
  refine ziU (by kernel_rfl) ?_
  refine Wk ?_
  refine zc9 rfl (fun hq=>?_) (fun hq=>?_)
  ·exact absurd hf0 (fun e=>by rw [e] at hq;simp at hq)
  refine zc5 ?_
  refine Evs ?_
  refine zie rfl ?_
  refine Evs ?_
  rw [zjz (by omega)]
  repeat' first|refine Wa ?_|(simp only [go_sem,jq,jj,jy,jv,jk,jx,zlT hs hlt,hs.some hlt,hlt,jW];try rfl)|refine zc3 ?_
  refine zc9 rfl (fun hq=>?_) (fun hq=>?_)
  ·exact absurd hf1 (zjD hq)
  refine zc5 ?_
  refine Evs ?_
  refine zie rfl ?_
  refine Evs ?_
  rw [zjz (by omega)]
  repeat' first|refine Wa ?_|(simp only [go_sem,jq,jj,jy,jv,jk,jx,zlT hs hlt,hs.some hlt,hlt,jW];try rfl)|refine zc3 ?_
  refine zc9 rfl (fun hq=>?_) (fun hq=>?_)
  ·exact absurd hf2 (zjD hq)
  refine zc5 ?_
  refine Evs ?_
  refine zie rfl ?_
  refine Evs ?_
  rw [zjz (by omega)]
  repeat' first|refine Wa ?_|(simp only [go_sem,jq,jj,jy,jv,jk,jx,zlT hs hlt,hs.some hlt,hlt,jW];try rfl)|refine zc3 ?_
  refine zc9 rfl (fun hq=>?_) (fun hq=>?_)
  ·exact absurd hf3 (zjD hq)
  refine zc5 ?_
  refine Evs ?_
  refine zie rfl ?_
  refine Evs ?_
  rw [zjz (by omega)]
  repeat' first|refine Wa ?_|(simp only [go_sem,jq,jj,jy,jv,jk,jx,zlT hs hlt,hs.some hlt,hlt,jW];try rfl)|refine zc3 ?_
  refine zc9 rfl (fun hq=>?_) (fun hq=>?_)
  ·exact absurd hf4 (zjD hq)
  refine zc5 ?_
  refine Evs ?_
  refine zie rfl ?_
  refine Evs ?_
  rw [zjz (by omega)]
  repeat' first|refine Wa ?_|(simp only [go_sem,jq,jj,jy,jv,jk,jx,zlT hs hlt,hs.some hlt,hlt,jW];try rfl)|refine zc3 ?_
  refine ⟨by decide,?_⟩
  repeat' first|refine Wa ?_|(simp only [go_sem,jq,jj,jy,jv,jk,jx,zlT hs hlt,hs.some hlt,hlt,jW];try rfl)|refine zc3 ?_
  refine zc9 rfl (fun hq=>?_) (fun hq=>?_)
  ·exact absurd hf5 (zjD hq)
  refine zc5 ?_
  refine Evs ?_
  refine zc4 rfl ?_
  refine Evs ?_
  rw [zjz (by omega)]
  refine Wk ?_
  exact ⟨i+1,hlt,by omega,zjB (by rw [hcnt,hc];omega),zjB (zjA hlt (by omega))⟩
 ·have hge:=zjI hd
  have hie:i=s.l.length:=Nat.le_antisymm hi hge
  refine Wk ?_
  rw [hie,List.take_length,hcs]
theorem z1X (s:Sl DSurge) (k:Int) (h:Hp) (hs:s.Ok h) (hm:mkL s.l k=s.l) (hk:0≤k∧k+(Mk.cnt s:Nat)≤4611686018427387904):Ct jV 201 [s.val,.int .i64 k] h fun v h'=>v=.int .i64 (k+(Mk.cnt s:Nat))∧h'=h:=by
 have hmax:=hs.max
 have hcs:Mk.cnt s=cntL s.l:=rfl
 refine zdn (fun A W=>by simp) Tryz.func201 rfl rfl (by simp) fun W0=>?_
 refine Wk ?_
 refine zde (ι:=Nat) (fun i=>⟨[(0,true,.c (.v s.val)),(1,true,.c (.v (.int .i64 (k+(cntL (s.l.take i):Nat))))),(5,true,.c (.v (.int .i64 i)))],[],h,0⟩) (fun i=>i≤s.l.length) (fun i=>s.l.length - i) 0 (Nat.zero_le _) ?_ ?_
 ·refine Evs ?_
  exact ⟨zjB (by rw [zO0];omega),rfl⟩
 intro i hi
 refine Wk ?_
 refine zc9 rfl (fun hd=>?_) (fun hd=>?_)
 ·have hlt:=zjH hd
  have hcnt:=zO4 hlt
  have hcle:=zO5 (l:=s.l) (i:=i+1)
  have hx:=zPD hm hlt
  generalize hκ:k+((cntL (s.l.take i):Nat):Int)=κ at hx
  have hκ0:0≤κ∧κ+(Mk.cnt s.l[i]:Nat)≤4611686018427387904:=by omega
  have hc:Mk.cnt s.l[i]=3:=rfl
  have hf0:s.l[i].src=κ:=(congrArg DSurge.src hx).trans (by simp only [Mk.put])
  have hf1:s.l[i].low=κ+1:=(congrArg DSurge.low hx).trans (by simp only [Mk.put])
  have hf2:s.l[i].high=κ+1+1:=(congrArg DSurge.high hx).trans (by simp only [Mk.put];try omega)
  repeat' first|refine Wa ?_|(simp only [go_sem,jq,jj,jy,jv,jk,jx,zlQ hs hlt,hs.some hlt,hlt,jW];try rfl)|refine zc3 ?_
  refine zc9 rfl (fun hq=>?_) (fun hq=>?_)
  ·exact absurd hf0 (zjD hq)
  refine zc5 ?_
  refine Evs ?_
  refine zie rfl ?_
  refine Evs ?_
  rw [zjz (by omega)]
  repeat' first|refine Wa ?_|(simp only [go_sem,jq,jj,jy,jv,jk,jx,zlQ hs hlt,hs.some hlt,hlt,jW];try rfl)|refine zc3 ?_
  refine zc9 rfl (fun hq=>?_) (fun hq=>?_)
  ·exact absurd hf1 (zjD hq)
  refine zc5 ?_
  refine Evs ?_
  refine zie rfl ?_
  refine Evs ?_
  rw [zjz (by omega)]
  repeat' first|refine Wa ?_|(simp only [go_sem,jq,jj,jy,jv,jk,jx,zlQ hs hlt,hs.some hlt,hlt,jW];try rfl)|refine zc3 ?_
  refine zc9 rfl (fun hq=>?_) (fun hq=>?_)
  ·exact absurd hf2 (zjD hq)
  refine zc5 ?_
  refine Evs ?_
  refine zc4 rfl ?_
  refine Evs ?_
  rw [zjz (by omega)]
  refine Wk ?_
  exact ⟨i+1,hlt,by omega,zjB (by rw [hcnt,hc];omega),zjB (zjA hlt (by omega))⟩
 ·have hge:=zjI hd
  have hie:i=s.l.length:=Nat.le_antisymm hi hge
  refine Wk ?_
  rw [hie,List.take_length,hcs]
theorem z1Y (c:DChart) (k:Int) (h:Hp) (hc:Enc.ok h c) (hm:zPy c k=c) (hk:0≤k∧k+(zPz c:Nat)≤4611686018427387904):Ct jV 118 [c.v,.int .i64 k] h fun v h'=>v=.int .i64 (k+(zPz c:Nat))∧h'=h:=by
 have hcv:zPz c=Mk.cnt c.points+Mk.cnt c.segments:=rfl
 have hf0:mkL c.points.l (k)=c.points.l:=congrArg (fun z=>(DChart.points z).l) hm
 have hf1:mkL c.segments.l (k+(Mk.cnt c.points:Nat))=c.segments.l:=congrArg (fun z=>(DChart.segments z).l) hm
 refine zdn (fun A W=>by simp) Tryz.func118 rfl rfl (by simp) fun W0=>?_
 repeat' first|refine Wa ?_|refine zhF (fun _=>z1U _ _ _ hc.1 hf0 (by omega)) ?_|(simp only [go_sem,jq,jj,jy,jv,jk,jx];try rfl)|refine Wb ?_|fail
 refine zc9 rfl (fun hq=>?_) (fun hq=>?_)
 ·exact absurd (of_decide_eq_true hq) (by omega)
 repeat' first|refine Wa ?_|refine zhF (fun _=>z1V _ _ _ hc.2 hf1 (by omega)) ?_|(simp only [go_sem,jq,jj,jy,jv,jk,jx];try rfl)|refine Wb ?_|fail
 refine zc9 rfl (fun hq=>?_) (fun hq=>?_)
 ·exact absurd (of_decide_eq_true hq) (by omega)
 refine Wk ?_
 rw [hcv]
 congr 1
 omega
theorem z1Z (c:DTide) (k:Int) (h:Hp) (hc:Enc.ok h c) (hm:zPu c k=c) (hk:0≤k∧k+(zPv c:Nat)≤4611686018427387904):Ct jV 200 [c.v,.int .i64 k] h fun v h'=>v=.int .i64 (k+(zPv c:Nat))∧h'=h:=by
 have hcv:zPv c=Mk.cnt c.parts:=rfl
 have hf0:mkL c.parts.l (k)=c.parts.l:=congrArg (fun z=>(DTide.parts z).l) hm
 refine zdn (fun A W=>by simp) Tryz.func200 rfl rfl (by simp) fun W0=>?_
 repeat' first|refine Wa ?_|refine zhF (fun _=>z1T _ _ _ hc.2 hf0 (by omega)) ?_|(simp only [go_sem,jq,jj,jy,jv,jk,jx];try rfl)|refine Wb ?_|fail
 refine zc9 rfl (fun hq=>?_) (fun hq=>?_)
 ·exact absurd (of_decide_eq_true hq) (by omega)
 exact Wk0
theorem z10 (c:DForecast) (k:Int) (h:Hp) (hc:Enc.ok h c) (hm:zPw c k=c) (hk:0≤k∧k+(zPx c:Nat)≤4611686018427387904):Ct jV 117 [c.v,.int .i64 k] h fun v h'=>v=.int .i64 (k+(zPx c:Nat))∧h'=h:=by
 have hcv:zPx c=zPv c.tide+Mk.cnt c.surges:=rfl
 have hf0:zPu c.tide (k)=c.tide:=congrArg (fun z=>DForecast.tide z) hm
 have hf1:mkL c.surges.l (k+(zPv c.tide:Nat))=c.surges.l:=congrArg (fun z=>(DForecast.surges z).l) hm
 refine zdn (fun A W=>by simp) Tryz.func117 rfl rfl (by simp) fun W0=>?_
 repeat' first|refine Wa ?_|refine zhF (fun _=>z1Z _ _ _ hc.1 hf0 (by omega)) ?_|(simp only [go_sem,jq,jj,jy,jv,jk,jx];try rfl)|refine Wb ?_|fail
 refine zc9 rfl (fun hq=>?_) (fun hq=>?_)
 ·exact absurd (of_decide_eq_true hq) (by omega)
 repeat' first|refine Wa ?_|refine zhF (fun _=>z1X _ _ _ hc.2 hf1 (by omega)) ?_|(simp only [go_sem,jq,jj,jy,jv,jk,jx];try rfl)|refine Wb ?_|fail
 refine zc9 rfl (fun hq=>?_) (fun hq=>?_)
 ·exact absurd (of_decide_eq_true hq) (by omega)
 refine Wk ?_
 rw [hcv]
 congr 1
 omega
theorem z11 (c:DHarbour) (k:Int) (h:Hp) (hc:Enc.ok h c) (hm:zPA c k=c) (hk:0≤k∧k+(zPB c:Nat)≤4611686018427387904):Ct jV 46 [c.v,.int .i64 k] h fun v h'=>v=.int .i64 (k+(zPB c:Nat))∧h'=h:=by
 have hcv:zPB c=zPx c.forecast+zPz c.chart+Mk.cnt c.fleet+zPt c.crew:=rfl
 have hf0:zPw c.forecast (k)=c.forecast:=congrArg (fun z=>DHarbour.forecast z) hm
 have hf1:zPy c.chart (k+(zPx c.forecast:Nat))=c.chart:=congrArg (fun z=>DHarbour.chart z) hm
 have hf2:mkL c.fleet.l (k+(zPx c.forecast:Nat)+(zPz c.chart:Nat))=c.fleet.l:=congrArg (fun z=>(DHarbour.fleet z).l) hm
 have hf3:zPs c.crew (k+(zPx c.forecast:Nat)+(zPz c.chart:Nat)+(Mk.cnt c.fleet:Nat))=c.crew:=congrArg (fun z=>DHarbour.crew z) hm
 refine zdn (fun A W=>by simp) Tryz.func46 rfl rfl (by simp) fun W0=>?_
 repeat' first|refine Wa ?_|refine zhF (fun _=>z10 _ _ _ hc.1 hf0 (by omega)) ?_|(simp only [go_sem,jq,jj,jy,jv,jk,jx];try rfl)|refine Wb ?_|fail
 refine zc9 rfl (fun hq=>?_) (fun hq=>?_)
 ·exact absurd (of_decide_eq_true hq) (by omega)
 repeat' first|refine Wa ?_|refine zhF (fun _=>z1Y _ _ _ hc.2.1 hf1 (by omega)) ?_|(simp only [go_sem,jq,jj,jy,jv,jk,jx];try rfl)|refine Wb ?_|fail
 refine zc9 rfl (fun hq=>?_) (fun hq=>?_)
 ·exact absurd (of_decide_eq_true hq) (by omega)
 repeat' first|refine Wa ?_|refine zhF (fun _=>z1W _ _ _ hc.2.2.1 hf2 (by omega)) ?_|(simp only [go_sem,jq,jj,jy,jv,jk,jx];try rfl)|refine Wb ?_|fail
 refine zc9 rfl (fun hq=>?_) (fun hq=>?_)
 ·exact absurd (of_decide_eq_true hq) (by omega)
 repeat' first|refine Wa ?_|refine zhF (fun _=>z1S _ _ _ hc.2.2.2.2 hf3 (by omega)) ?_|(simp only [go_sem,jq,jj,jy,jv,jk,jx];try rfl)|refine Wb ?_|fail
 refine zc9 rfl (fun hq=>?_) (fun hq=>?_)
 ·exact absurd (of_decide_eq_true hq) (by omega)
 refine Wk ?_
 rw [hcv]
 congr 1
 omega
theorem zYZ (n lo hi:Int) (h:Hp):Ct jV 65 [.int .i64 n,.int .i64 lo,.int .i64 hi] h fun v h'=>v=.bool (decide (lo≤n) && decide (n≤hi))∧h'=h:=by
 refine zdn (fun A W=>by simp) Tryz.func65 rfl rfl (by simp) fun W0=>?_
 exact Wk0
theorem zum (n lo hi:Int) (h:Hp):Ct jV 98 [.int .i64 n,.int .i64 lo,.int .i64 hi] h fun v h'=>v=.bool (decide (lo≤n) && decide (n≤hi))∧h'=h:=by
 refine zdn (fun A W=>by simp) Tryz.func98 rfl rfl (by simp) fun W0=>?_
 exact Wk0
theorem zun (n:Int) (h:Hp):Ct jV 149 [.int .i64 n] h fun v h'=>v=.bool (decide (0≤n) && decide (n≤2880))∧h'=h:=by
 refine zdn (fun A W=>by simp) Tryz.func149 rfl rfl (by simp) fun W0=>?_
 repeat' first|refine Wa ?_|refine zhF (fun _=>zum _ _ _ _) ?_|(simp only [go_sem,jq,jj,jy,jv,jk,jx];try rfl)|refine Wb ?_|fail
theorem zuo (n m:Int) (h:Hp):Ct jV 109 [.int .i64 n,.int .i64 m] h fun v h'=>v=.bool (decide (0≤n) && decide (n < m))∧h'=h:=by
 refine zdn (fun A W=>by simp) Tryz.func109 rfl rfl (by simp) fun W0=>?_
 exact Wk0
theorem w64 (n:Int):IntKind.i64.wrap n=(n+9223372036854775808) % 18446744073709551616 - 9223372036854775808:=by rw [IntKind.wrap_i64]
end Go.Proofs.YtbkaaakphpbmiaaGreat
