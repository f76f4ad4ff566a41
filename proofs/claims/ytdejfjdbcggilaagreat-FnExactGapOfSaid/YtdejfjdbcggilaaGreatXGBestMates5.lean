/- What functions of the given program compute, as contracts. -/
import Derived.Test.YtdejfjdbcggilaaGreatSGBestMatesx4
set_option linter.unusedVariables false
set_option linter.unusedSimpArgs false
set_option maxRecDepth 4000
open Nat renaming reduceAdd → jq, reduceMul → jj, reduceBEq → jy, reduceLeDiff → jv, reduceLT → jk, reduceEqDiff → jx
open Bool renaming or_eq_false_iff → jp, or_eq_true → jQ, and_eq_true → jJ
open Int renaming toNat_natCast → jW, natCast_nonneg → jY
open Go.Proofs.Tryz renaming prog → jV
namespace Go.Proofs.YtdejfjdbcggilaaGreat
open Go Go.SL
set_option maxHeartbeats 1000000
theorem zy0 (n:Int):bstr [n]=⟨#[UInt8.ofNat n.toNat]⟩:=rfl
theorem zy1 (a b:List UInt8):(⟨a.toArray⟩:ByteArray) ++ ⟨b.toArray⟩=⟨(a ++ b).toArray⟩:=by
 ext1
 simp [ByteArray.data_append]
theorem zy2:∀ (f n:Nat) (acc:List UInt8),zmp f n acc=zmp f n [] ++ acc
 | 0,_,acc=>rfl
 | f+1,n,acc=>by
  unfold zmp
  split
  ·rfl
  ·rw [zy2 f _ (_ :: acc),zy2 f _ [_]];simp
theorem zy3:∀ (f n:Nat),(zmp f n []).length≤f
 | 0,_=>Nat.le_refl _
 | f+1,n=>by
  unfold zmp
  split
  ·exact Nat.zero_le _
  ·rw [zy2,List.length_append];have:=zy3 f (n / 10);simp only [List.length_cons,List.length_nil];omega
theorem zy4 {f:Nat} {acc:List UInt8}:zmp f 0 acc=acc:=by cases f <;> rfl
theorem zy5 (k:Int):(mkT k).size≤65:=by
 unfold mkT
 show (List.toArray _).size≤65
 rw [List.size_toArray,List.length_cons]
 split
 ·simp
 ·have:=zy3 64 k.toNat;omega
theorem zy6 (k:Int) (h:Hp) (hk:k≤4611686018427387904):Ct jV 137 [.int .i64 k] h fun v h'=>v=.string (mkT k)∧h'=h:=by
 refine Ct.forget ?_
 refine zdn (fun A W=>by simp) Tryz.func137 rfl rfl (by simp) fun W0=>?_
 refine Wk ?_
 refine zc9 rfl (fun hc=>?_) (fun hc=>?_)
 ·refine Wk ?_
  rw [mkT,if_pos (of_decide_eq_true hc)]
 have hc:=of_decide_eq_false hc
 refine Wk ?_
 refine zm1 (ι:=Nat × Nat × List UInt8) (fun i=>⟨[(0,true,.c (.v (.int .i64 (i.2.1:Int)))),(3,true,.c (.v (.string ⟨i.2.2.toArray⟩)))],[],h,0⟩) (fun i=>zmp i.1 i.2.1 i.2.2=zmp 64 k.toNat []∧i.2.1 < 10 ^ i.1∧i.1+i.2.2.length=64∧i.2.1≤4611686018427387904) (fun i=>i.1) (64,k.toNat,[]) ⟨rfl,by simp only;omega,rfl,by simp only;omega⟩ [] ?_ ?_
 ·refine Evs ?_
  refine ⟨zjB ?_,rfl⟩
  omega
 rintro ⟨f,n,acc⟩ ⟨h1,h2,h3,h4⟩
 simp only at h1 h2 h3 h4
 refine Wk ?_
 refine zc9 rfl (fun hd=>?_) (fun hd=>?_)
 ·have hn:0 < n:=by have:=of_decide_eq_true hd;omega
  obtain ⟨f,rfl⟩:∃ f',f=f'+1:=⟨f - 1,by cases f with|zero=>simp at h2;omega|succ f=>rfl⟩
  have hm:Int.tmod (n:Int) 10=((n % 10:Nat):Int):=by rw [Int.tmod_eq_emod_of_nonneg (by omega)];omega
  have hw1:IntKind.i64.wrap (48+((n % 10:Nat):Int))=((48+n % 10:Nat):Int):=by rw [zjz (by omega)];omega
  have hw2:IntKind.u8.wrap ((48+n % 10:Nat):Int)=((48+n % 10:Nat):Int):=by
   have:n % 10 < 10:=Nat.mod_lt _ (by decide)
   show (((48+n % 10:Nat):Int)) % 256=_
   omega
  have hq:Int.tdiv (n:Int) 10=((n / 10:Nat):Int):=by rw [Int.tdiv_eq_ediv_of_nonneg (by omega)];omega
  have hw3:IntKind.i64.wrap ((n / 10:Nat):Int)=((n / 10:Nat):Int):=zjz (by omega)
  refine zc5 ?_
  refine Evs ?_
  refine zc8 ?_
  refine zyi [0,0,0,0,0,4] rfl ?_
  simp only [go_sem,jq,jj,jy,jv,jk,jx,hm,hw1,hw2]
  refine ⟨by decide,?_⟩
  refine zyj (ns:=[((48+n % 10:Nat):Int)]) rfl rfl Tryz.underlying76 Tryz.underlying5 Tryz.underlying9 ?_
  refine Evs ?_
  have hsz:(bstr [((48+n % 10:Nat):Int)]).size=1:=rfl
  refine ⟨by rw [hsz,List.size_toArray];omega,?_⟩
  repeat' first|refine Wa ?_|(simp only [go_sem,jq,jj,jy,jv,jk,jx,hq,hw3];try rfl)|refine Wb ?_|fail
  refine ⟨by decide,?_⟩
  repeat' first|refine Wa ?_|(simp only [go_sem,jq,jj,jy,jv,jk,jx,hq,hw3];try rfl)|refine Wb ?_|fail
  refine ⟨(f,n / 10,UInt8.ofNat (48+n % 10) :: acc),[],⟨?_,?_,?_,?_⟩,by simp only;omega,?_⟩
  ·simp only
   rw [← h1]
   conv=>rhs;unfold zmp
   rw [if_neg (by omega)]
  ·simp only
   rw [Nat.pow_succ] at h2
   omega
  ·simp only [List.length_cons];omega
  ·simp only;omega
  refine Evs ?_
  refine ⟨?_,rfl⟩
  rw [zy0,jW]
  congr 5
 ·have hn:n=0:=by have:=of_decide_eq_false hd;omega
  subst hn
  rw [zy4] at h1
  refine Wk ?_
  refine ⟨by rw [List.size_toArray];simp;omega,?_⟩
  refine Wk ?_
  rw [mkT,if_neg hc,← h1]
  exact congrArg Value.string (zy1 [109] acc)
theorem zy7 (s:Sl Int) (k:Int) (h:Hp) (hs:s.Ok h) (ho:Foot.own h s) (hn:(Foot.foot s).Nodup) (hk:0≤k∧k+(Mk.cnt s:Nat)≤4611686018427387904):Cw jV 37 [s.val,.int .i64 k] h (fun b=>b ∈ Foot.foot s) fun v h'=>v=.int .i64 (k+(Mk.cnt s:Nat))∧Enc.ok h' (Mk.put s k)∧Foot.own h' (Mk.put s k):=by
 have hmax:=hs.max
 have hcs:Mk.cnt s=cntL s.l:=rfl
 by_cases hl:s.l=[]
 ·refine zlI (fun A W=>by simp) Tryz.func37 rfl rfl (by simp)  (fun b hb=>Foot.dom ho b hb) fun W0 hW=>?_
  refine Wk ?_
  refine zde (ι:=Unit) (fun _=>⟨[(0,true,.c (.v s.val)),(1,true,.c (.v (.int .i64 k))),(5,true,.c (.v (.int .i64 0)))],[],h,0⟩) (fun _=>True) (fun _=>0) () trivial ?_ ?_
  ·exact Evc
  rintro _ _
  refine Wk ?_
  refine zc9 rfl (fun hc=>?_) (fun hc=>?_)
  ·exact absurd (of_decide_eq_true hc) (by rw [hl];simp)
  ·refine Wk ?_
   refine ⟨by rw [hcs,hl];simp [cntL],⟨(by simp [Mk.put,hl,mkL]),fun hne=>(hne (by simp [Mk.put,hl,mkL])).elim,fun i x hx=>by simp [Mk.put,hl,mkL] at hx,fun x hx=>by simp [Mk.put,hl,mkL] at hx,hs.2.2.2.2⟩,fun hne=>(hne (by simp [Mk.put,hl,mkL])).elim⟩
 obtain ⟨g,e,spare,ha,hb,hsp⟩:=zmo (by decide) hs ho hl
 have hsz:Enc.size Int=1:=rfl
 have hfoot:g ∈ Foot.foot s:=by
  rw [show Foot.foot s=_ from Sl.foot_ne hl]
  simp [Sl.blkOf,ha]
 refine zlI (fun A W=>by simp) Tryz.func37 rfl rfl (by simp)  (fun b hb=>Foot.dom ho b hb) fun W0 hW=>?_
 refine Wk ?_
 refine zde (ι:=Nat × Hp) (fun i=>⟨[(0,true,.c (.v s.val)),(1,true,.c (.v (.int .i64 (k+(cntL (s.l.take i.1):Nat))))),(5,true,.c (.v (.int .i64 i.1)))],[],i.2,0⟩) (fun i=>i.1≤s.l.length∧i.2 g=some (.cells (rowL (mkd s.l k i.1) spare).toArray e (0,0))∧∀ x ∈ mkd s.l k i.1,Enc.ok i.2 x) (fun i=>s.l.length - i.1) (0,h) ⟨Nat.zero_le _,by rw [zme];exact hb,by rw [zme];exact hs.2.2.2.1⟩ ?_ ?_
 ·refine Evs ?_
  exact ⟨zjB (by rw [zl6];omega),rfl⟩
 rintro ⟨i,hk'⟩ ⟨hi,hb0,hok⟩
 refine Wk ?_
 refine zc9 rfl (fun hd=>?_) (fun hd=>?_)
 ·have hlt:=zjH hd
  have hcnt:=zmc hlt
  have hcle:=zmd (l:=s.l) (i:=i+1)
  have hc:Mk.cnt s.l[i]=1:=rfl
  generalize hκ:k+((cntL (s.l.take i):Nat):Int)=κ
  have hκ0:0≤κ∧κ+1≤4611686018427387904:=by omega
  have hlen:i * 1+1≤(rowL (mkd s.l k i) spare).length:=by rw [zmi,zmg,hsz];omega
  generalize hX:rowL (mkd s.l k i) spare=X0 at hb0 hlen
  refine zc5 ?_
  refine Evs ?_
  refine zc3 ?_
  refine zc8 ?_
  refine zlS [0,0,0,0,1] rfl ?_
  simp only [go_sem,jq,jj,jy,jv,jk,jx,ha,hlt,Option.map_some,za4,Option.isSome_some,jW,Nat.zero_add,Nat.add_zero,List.toList_toArray,Hp.ins_ins]
  refine zl3 (by simp only [go_sem]) (by simp only [go_sem]) rfl rfl hb0 (.inr (hW _ hfoot)) (by simp only [List.size_toArray];omega) ?_
  simp only [go_sem,jq,jj,jy,jv,jk,jx,ha,hlt,Option.map_some,za4,Option.isSome_some,jW,Nat.zero_add,Nat.add_zero,List.toList_toArray,Hp.ins_ins]
  refine zc4 rfl ?_
  refine Evs ?_
  rw [zjz (by omega)]
  refine Wk ?_
  refine ⟨(i+1,hk'.ins g (.cells (spl (i * 1) [.int .i64 (κ)] X0).toArray e (0,0))),⟨hlt,?_,fun x hx=>?_⟩,by simp only;omega,?_⟩
  ·rw [← zmh hlt,← zmj (by rw [zmg];exact hlt),hX]
   simp only
   rw [Hp.ins_same]
   congr 4
   simp only [show k+((cntL (List.take i s.l):Nat):Int)=κ from hκ,Mk.put,Enc.enc]
   try simp only [mkB,Int.add_assoc,Int.reduceAdd]
   try rfl
  ·simp only at hx ⊢
   rw [← zmh hlt] at hx
   rcases List.mem_or_eq_of_mem_set hx with hx|rfl
   ·exact hok x hx
   ·exact (show I64 (Mk.put (α:=Int) _ _) from by show I64 (_+_);unfold I64;omega)
  ·refine Evs ?_
   exact ⟨zjB (by rw [hcnt,hc];omega),zjB (zjA hlt (by omega))⟩
 ·have hge:=zjI hd
  have hie:i=s.l.length:=Nat.le_antisymm hi hge
  refine Wk ?_
  have hp:mkd s.l k i=(Mk.put s k).l:=zmf hge
  rw [hp] at hb0 hok
  have hll:(Mk.put s k).l.length=s.l.length:=zl9
  have hsl:=zmn (α:=Int) (h:=hk') (g:=g) (cap:=s.cap) (by decide) hb0 (by rw [hll];exact hs.1) hs.2.2.2.2 hok
  have hsv:(Sl.mk (some ⟨g,0,none⟩) s.cap (Mk.put s k).l:Sl Int)=Mk.put s k:=by rw [← ha];rfl
  rw [hsv] at hsl
  refine ⟨by rw [hie,List.take_length,hcs],hsl,fun _=>⟨⟨g,_,e,ha,hb0,?_⟩,fun x hx=>trivial⟩⟩
  rw [List.size_toArray,zmi,hll,hsp]
  rfl
theorem zy8 (s:Sl DCall) (k:Int) (h:Hp) (hs:s.Ok h) (ho:Foot.own h s) (hn:(Foot.foot s).Nodup) (hk:0≤k∧k+(Mk.cnt s:Nat)≤4611686018427387904):Cw jV 36 [s.val,.int .i64 k] h (fun b=>b ∈ Foot.foot s) fun v h'=>v=.int .i64 (k+(Mk.cnt s:Nat))∧Enc.ok h' (Mk.put s k)∧Foot.own h' (Mk.put s k):=by
 have hmax:=hs.max
 have hcs:Mk.cnt s=cntL s.l:=rfl
 by_cases hl:s.l=[]
 ·refine zlI (fun A W=>by simp) Tryz.func36 rfl rfl (by simp)  (fun b hb=>Foot.dom ho b hb) fun W0 hW=>?_
  refine Wk ?_
  refine zde (ι:=Unit) (fun _=>⟨[(0,true,.c (.v s.val)),(1,true,.c (.v (.int .i64 k))),(5,true,.c (.v (.int .i64 0)))],[],h,0⟩) (fun _=>True) (fun _=>0) () trivial ?_ ?_
  ·exact Evc
  rintro _ _
  refine Wk ?_
  refine zc9 rfl (fun hc=>?_) (fun hc=>?_)
  ·exact absurd (of_decide_eq_true hc) (by rw [hl];simp)
  ·refine Wk ?_
   refine ⟨by rw [hcs,hl];simp [cntL],⟨(by simp [Mk.put,hl,mkL]),fun hne=>(hne (by simp [Mk.put,hl,mkL])).elim,fun i x hx=>by simp [Mk.put,hl,mkL] at hx,fun x hx=>by simp [Mk.put,hl,mkL] at hx,hs.2.2.2.2⟩,fun hne=>(hne (by simp [Mk.put,hl,mkL])).elim⟩
 obtain ⟨g,e,spare,ha,hb,hsp⟩:=zmo (by decide) hs ho hl
 have hsz:Enc.size DCall=5:=rfl
 have hfoot:g ∈ Foot.foot s:=by
  rw [show Foot.foot s=_ from Sl.foot_ne hl]
  simp [Sl.blkOf,ha]
 refine zlI (fun A W=>by simp) Tryz.func36 rfl rfl (by simp)  (fun b hb=>Foot.dom ho b hb) fun W0 hW=>?_
 refine Wk ?_
 refine zde (ι:=Nat × Hp) (fun i=>⟨[(0,true,.c (.v s.val)),(1,true,.c (.v (.int .i64 (k+(cntL (s.l.take i.1):Nat))))),(5,true,.c (.v (.int .i64 i.1)))],[],i.2,0⟩) (fun i=>i.1≤s.l.length∧i.2 g=some (.cells (rowL (mkd s.l k i.1) spare).toArray e (0,0))∧∀ x ∈ mkd s.l k i.1,Enc.ok i.2 x) (fun i=>s.l.length - i.1) (0,h) ⟨Nat.zero_le _,by rw [zme];exact hb,by rw [zme];exact hs.2.2.2.1⟩ ?_ ?_
 ·refine Evs ?_
  exact ⟨zjB (by rw [zl6];omega),rfl⟩
 rintro ⟨i,hk'⟩ ⟨hi,hb0,hok⟩
 refine Wk ?_
 refine zc9 rfl (fun hd=>?_) (fun hd=>?_)
 ·have hlt:=zjH hd
  have hcnt:=zmc hlt
  have hcle:=zmd (l:=s.l) (i:=i+1)
  have hc:Mk.cnt s.l[i]=5:=rfl
  generalize hκ:k+((cntL (s.l.take i):Nat):Int)=κ
  have hκ0:0≤κ∧κ+5≤4611686018427387904:=by omega
  have hlen:i * 5+5≤(rowL (mkd s.l k i) spare).length:=by rw [zmi,zmg,hsz];omega
  generalize hX:rowL (mkd s.l k i) spare=X0 at hb0 hlen
  refine zc5 ?_
  refine Evs ?_
  refine zc3 ?_
  refine zc8 ?_
  refine zlS [0,0,0,0,0,1] rfl ?_
  simp only [go_sem,jq,jj,jy,jv,jk,jx,ha,hlt,Option.map_some,za4,Option.isSome_some,jW,Nat.zero_add,Nat.add_zero,List.toList_toArray,Hp.ins_ins]
  refine zl3 (by simp only [go_sem]) (by simp only [go_sem]) rfl rfl hb0 (.inr (hW _ hfoot)) (by simp only [List.size_toArray];omega) ?_
  simp only [go_sem,jq,jj,jy,jv,jk,jx,ha,hlt,Option.map_some,za4,Option.isSome_some,jW,Nat.zero_add,Nat.add_zero,List.toList_toArray,Hp.ins_ins]
  refine zie rfl ?_
  refine Evs ?_
  rw [zjz (by omega)]
  have hsl1:(spl (i * 5) [.int .i64 (κ)] X0).length=X0.length:=zmm (by simp only [List.length_cons,List.length_nil];omega)
  refine zlS [0,0,0,0,0,1] rfl ?_
  simp only [go_sem,jq,jj,jy,jv,jk,jx,ha,hlt,Option.map_some,za4,Option.isSome_some,jW,Nat.zero_add,Nat.add_zero,List.toList_toArray,Hp.ins_ins]
  refine zl3 (by simp only [go_sem]) (by simp only [go_sem]) rfl rfl Hp.ins_same (.inr (hW _ hfoot)) (by simp only [List.size_toArray,hsl1];omega) ?_
  simp only [go_sem,jq,jj,jy,jv,jk,jx,ha,hlt,Option.map_some,za4,Option.isSome_some,jW,Nat.zero_add,Nat.add_zero,List.toList_toArray,Hp.ins_ins]
  rw [show spl (i * 5+1) [.int .i64 (κ+1)] (spl (i * 5) [.int .i64 (κ)] X0)=spl (i * 5) [.int .i64 (κ),.int .i64 (κ+1)] X0 from zml (m:=[.int .i64 (κ)]) (by simp only [List.length_cons,List.length_nil];omega)]
  refine zie rfl ?_
  refine Evs ?_
  rw [zjz (by omega)]
  have hsl2:(spl (i * 5) [.int .i64 (κ),.int .i64 (κ+1)] X0).length=X0.length:=zmm (by simp only [List.length_cons,List.length_nil];omega)
  refine zlS [0,0,0,0,0,1] rfl ?_
  simp only [go_sem,jq,jj,jy,jv,jk,jx,ha,hlt,Option.map_some,za4,Option.isSome_some,jW,Nat.zero_add,Nat.add_zero,List.toList_toArray,Hp.ins_ins]
  refine zl3 (by simp only [go_sem]) (by simp only [go_sem]) rfl rfl Hp.ins_same (.inr (hW _ hfoot)) (by simp only [List.size_toArray,hsl2];omega) ?_
  simp only [go_sem,jq,jj,jy,jv,jk,jx,ha,hlt,Option.map_some,za4,Option.isSome_some,jW,Nat.zero_add,Nat.add_zero,List.toList_toArray,Hp.ins_ins]
  rw [show spl (i * 5+2) [.int .i64 (κ+1+1)] (spl (i * 5) [.int .i64 (κ),.int .i64 (κ+1)] X0)=spl (i * 5) [.int .i64 (κ),.int .i64 (κ+1),.int .i64 (κ+1+1)] X0 from zml (m:=[.int .i64 (κ),.int .i64 (κ+1)]) (by simp only [List.length_cons,List.length_nil];omega)]
  refine zie rfl ?_
  refine Evs ?_
  rw [zjz (by omega)]
  have hsl3:(spl (i * 5) [.int .i64 (κ),.int .i64 (κ+1),.int .i64 (κ+1+1)] X0).length=X0.length:=zmm (by simp only [List.length_cons,List.length_nil];omega)
  refine zlS [0,0,0,0,0,1] rfl ?_
  simp only [go_sem,jq,jj,jy,jv,jk,jx,ha,hlt,Option.map_some,za4,Option.isSome_some,jW,Nat.zero_add,Nat.add_zero,List.toList_toArray,Hp.ins_ins]
  refine zl3 (by simp only [go_sem]) (by simp only [go_sem]) rfl rfl Hp.ins_same (.inr (hW _ hfoot)) (by simp only [List.size_toArray,hsl3];omega) ?_
  simp only [go_sem,jq,jj,jy,jv,jk,jx,ha,hlt,Option.map_some,za4,Option.isSome_some,jW,Nat.zero_add,Nat.add_zero,List.toList_toArray,Hp.ins_ins]
  rw [show spl (i * 5+3) [.int .i64 (κ+1+1+1)] (spl (i * 5) [.int .i64 (κ),.int .i64 (κ+1),.int .i64 (κ+1+1)] X0)=spl (i * 5) [.int .i64 (κ),.int .i64 (κ+1),.int .i64 (κ+1+1),.int .i64 (κ+1+1+1)] X0 from zml (m:=[.int .i64 (κ),.int .i64 (κ+1),.int .i64 (κ+1+1)]) (by simp only [List.length_cons,List.length_nil];omega)]
  refine zie rfl ?_
  refine Evs ?_
  rw [zjz (by omega)]
  have hsl4:(spl (i * 5) [.int .i64 (κ),.int .i64 (κ+1),.int .i64 (κ+1+1),.int .i64 (κ+1+1+1)] X0).length=X0.length:=zmm (by simp only [List.length_cons,List.length_nil];omega)
  refine zlS [0,0,0,0,0,1] rfl ?_
  simp only [go_sem,jq,jj,jy,jv,jk,jx,ha,hlt,Option.map_some,za4,Option.isSome_some,jW,Nat.zero_add,Nat.add_zero,List.toList_toArray,Hp.ins_ins]
  refine zl3 (by simp only [go_sem]) (by simp only [go_sem]) rfl rfl Hp.ins_same (.inr (hW _ hfoot)) (by simp only [List.size_toArray,hsl4];omega) ?_
  simp only [go_sem,jq,jj,jy,jv,jk,jx,ha,hlt,Option.map_some,za4,Option.isSome_some,jW,Nat.zero_add,Nat.add_zero,List.toList_toArray,Hp.ins_ins]
  rw [show spl (i * 5+4) [.int .i64 (κ+1+1+1+1)] (spl (i * 5) [.int .i64 (κ),.int .i64 (κ+1),.int .i64 (κ+1+1),.int .i64 (κ+1+1+1)] X0)=spl (i * 5) [.int .i64 (κ),.int .i64 (κ+1),.int .i64 (κ+1+1),.int .i64 (κ+1+1+1),.int .i64 (κ+1+1+1+1)] X0 from zml (m:=[.int .i64 (κ),.int .i64 (κ+1),.int .i64 (κ+1+1),.int .i64 (κ+1+1+1)]) (by simp only [List.length_cons,List.length_nil];omega)]
  refine zc4 rfl ?_
  refine Evs ?_
  rw [zjz (by omega)]
  refine Wk ?_
  refine ⟨(i+1,hk'.ins g (.cells (spl (i * 5) [.int .i64 (κ),.int .i64 (κ+1),.int .i64 (κ+1+1),.int .i64 (κ+1+1+1),.int .i64 (κ+1+1+1+1)] X0).toArray e (0,0))),⟨hlt,?_,fun x hx=>?_⟩,by simp only;omega,?_⟩
  ·rw [← zmh hlt,← zmj (by rw [zmg];exact hlt),hX]
   simp only
   rw [Hp.ins_same]
   congr 4
   simp only [show k+((cntL (List.take i s.l):Nat):Int)=κ from hκ,Mk.put,Enc.enc,DCall.cells]
   try simp only [mkB,Int.add_assoc,Int.reduceAdd]
   try rfl
  ·simp only at hx ⊢
   rw [← zmh hlt] at hx
   rcases List.mem_or_eq_of_mem_set hx with hx|rfl
   ·exact hok x hx
   ·exact (show I64 _∧I64 _∧I64 _∧I64 _∧I64 _ from by unfold I64;simp only [Mk.put];omega)
  ·refine Evs ?_
   exact ⟨zjB (by rw [hcnt,hc];omega),zjB (zjA hlt (by omega))⟩
 ·have hge:=zjI hd
  have hie:i=s.l.length:=Nat.le_antisymm hi hge
  refine Wk ?_
  have hp:mkd s.l k i=(Mk.put s k).l:=zmf hge
  rw [hp] at hb0 hok
  have hll:(Mk.put s k).l.length=s.l.length:=zl9
  have hsl:=zmn (α:=DCall) (h:=hk') (g:=g) (cap:=s.cap) (by decide) hb0 (by rw [hll];exact hs.1) hs.2.2.2.2 hok
  have hsv:(Sl.mk (some ⟨g,0,none⟩) s.cap (Mk.put s k).l:Sl DCall)=Mk.put s k:=by rw [← ha];rfl
  rw [hsv] at hsl
  refine ⟨by rw [hie,List.take_length,hcs],hsl,fun _=>⟨⟨g,_,e,ha,hb0,?_⟩,fun x hx=>trivial⟩⟩
  rw [List.size_toArray,zmi,hll,hsp]
  rfl
theorem zy9 (c:DCrew) (k:Int) (h:Hp) (hc:Enc.ok h c) (ho:Foot.own h c) (hn:(Foot.foot c).Nodup) (hk:0≤k∧k+(zmB c:Nat)≤4611686018427387904):Cw jV 86 [c.v,.int .i64 k] h (fun b=>b ∈ Foot.foot c) fun v h'=>v=.int .i64 (k+(zmB c:Nat))∧Enc.ok h' (zmA c k)∧Foot.own h' (zmA c k):=by
 have hdom:=fun b hb=>Foot.dom (x:=c) ho b hb
 have hcv:zmB c=Mk.cnt c.moves:=rfl
 have hft:Foot.foot c=Foot.foot c.moves:=rfl
 rw [hft] at hn
 rw [zmr] at ho
 have hmem:∀ b,b ∈ Foot.foot c ↔ b ∈ Foot.foot c.moves:=fun b=>by rw [hft]
 have ok0_0:Enc.ok h c.moves:=hc.2.2.2
 have ow0_0:Foot.own h c.moves:=ho
 have nd0:(Foot.foot c.moves).Nodup:=hn
 refine zlI (fun A W=>by simp) Tryz.func86 rfl rfl (by simp)  hdom fun W0 hW=>?_
 refine zie rfl ?_
 refine Evs ?_
 refine zlS [0,0,0,1] rfl ?_
 refine Evs ?_
 refine zlJ (x:=⟨jV,W0,h,_⟩) (zy7 c.moves (k) _ ok0_0 ow0_0 nd0 (by omega)) rfl (fun b hb=>⟨Foot.dom (x:=c.moves) ow0_0 b hb,.inr (hW b ((hmem b).2 hb))⟩) ?_
 rintro v h0 kp0 ⟨rfl,pk0,pw0⟩
 refine Evs ?_
 repeat' first|refine Wa ?_|(simp only [go_sem,jq,jj,jy,jv,jk,jx];try rfl)|refine zc3 ?_
 exact ⟨by rw [hcv],⟨hc.1,hc.2.1,hc.2.2.1,pk0⟩,pw0⟩
theorem zza (s:Sl DPart) (k:Int) (h:Hp) (hs:s.Ok h) (ho:Foot.own h s) (hn:(Foot.foot s).Nodup) (hk:0≤k∧k+(Mk.cnt s:Nat)≤4611686018427387904):Cw jV 178 [s.val,.int .i64 k] h (fun b=>b ∈ Foot.foot s) fun v h'=>v=.int .i64 (k+(Mk.cnt s:Nat))∧Enc.ok h' (Mk.put s k)∧Foot.own h' (Mk.put s k):=by
 have hmax:=hs.max
 have hcs:Mk.cnt s=cntL s.l:=rfl
 by_cases hl:s.l=[]
 ·refine zlI (fun A W=>by simp) Tryz.func178 rfl rfl (by simp)  (fun b hb=>Foot.dom ho b hb) fun W0 hW=>?_
  refine Wk ?_
  refine zde (ι:=Unit) (fun _=>⟨[(0,true,.c (.v s.val)),(1,true,.c (.v (.int .i64 k))),(5,true,.c (.v (.int .i64 0)))],[],h,0⟩) (fun _=>True) (fun _=>0) () trivial ?_ ?_
  ·exact Evc
  rintro _ _
  refine Wk ?_
  refine zc9 rfl (fun hc=>?_) (fun hc=>?_)
  ·exact absurd (of_decide_eq_true hc) (by rw [hl];simp)
  ·refine Wk ?_
   refine ⟨by rw [hcs,hl];simp [cntL],⟨(by simp [Mk.put,hl,mkL]),fun hne=>(hne (by simp [Mk.put,hl,mkL])).elim,fun i x hx=>by simp [Mk.put,hl,mkL] at hx,fun x hx=>by simp [Mk.put,hl,mkL] at hx,hs.2.2.2.2⟩,fun hne=>(hne (by simp [Mk.put,hl,mkL])).elim⟩
 obtain ⟨g,e,spare,ha,hb,hsp⟩:=zmo (by decide) hs ho hl
 have hsz:Enc.size DPart=3:=rfl
 have hfoot:g ∈ Foot.foot s:=by
  rw [show Foot.foot s=_ from Sl.foot_ne hl]
  simp [Sl.blkOf,ha]
 refine zlI (fun A W=>by simp) Tryz.func178 rfl rfl (by simp)  (fun b hb=>Foot.dom ho b hb) fun W0 hW=>?_
 refine Wk ?_
 refine zde (ι:=Nat × Hp) (fun i=>⟨[(0,true,.c (.v s.val)),(1,true,.c (.v (.int .i64 (k+(cntL (s.l.take i.1):Nat))))),(5,true,.c (.v (.int .i64 i.1)))],[],i.2,0⟩) (fun i=>i.1≤s.l.length∧i.2 g=some (.cells (rowL (mkd s.l k i.1) spare).toArray e (0,0))∧∀ x ∈ mkd s.l k i.1,Enc.ok i.2 x) (fun i=>s.l.length - i.1) (0,h) ⟨Nat.zero_le _,by rw [zme];exact hb,by rw [zme];exact hs.2.2.2.1⟩ ?_ ?_
 ·refine Evs ?_
  exact ⟨zjB (by rw [zl6];omega),rfl⟩
 rintro ⟨i,hk'⟩ ⟨hi,hb0,hok⟩
 refine Wk ?_
 refine zc9 rfl (fun hd=>?_) (fun hd=>?_)
 ·have hlt:=zjH hd
  have hcnt:=zmc hlt
  have hcle:=zmd (l:=s.l) (i:=i+1)
  have hc:Mk.cnt s.l[i]=3:=rfl
  generalize hκ:k+((cntL (s.l.take i):Nat):Int)=κ
  have hκ0:0≤κ∧κ+3≤4611686018427387904:=by omega
  have hlen:i * 3+3≤(rowL (mkd s.l k i) spare).length:=by rw [zmi,zmg,hsz];omega
  generalize hX:rowL (mkd s.l k i) spare=X0 at hb0 hlen
  refine zc5 ?_
  refine Evs ?_
  refine zc3 ?_
  refine zc8 ?_
  refine zlS [0,0,0,0,0,1] rfl ?_
  simp only [go_sem,jq,jj,jy,jv,jk,jx,ha,hlt,Option.map_some,za4,Option.isSome_some,jW,Nat.zero_add,Nat.add_zero,List.toList_toArray,Hp.ins_ins]
  refine zl3 (by simp only [go_sem]) (by simp only [go_sem]) rfl rfl hb0 (.inr (hW _ hfoot)) (by simp only [List.size_toArray];omega) ?_
  simp only [go_sem,jq,jj,jy,jv,jk,jx,ha,hlt,Option.map_some,za4,Option.isSome_some,jW,Nat.zero_add,Nat.add_zero,List.toList_toArray,Hp.ins_ins]
  refine zie rfl ?_
  refine Evs ?_
  rw [zjz (by omega)]
  have hsl1:(spl (i * 3) [.int .i64 (κ)] X0).length=X0.length:=zmm (by simp only [List.length_cons,List.length_nil];omega)
  refine zlS [0,0,0,0,0,1] rfl ?_
  simp only [go_sem,jq,jj,jy,jv,jk,jx,ha,hlt,Option.map_some,za4,Option.isSome_some,jW,Nat.zero_add,Nat.add_zero,List.toList_toArray,Hp.ins_ins]
  refine zl3 (by simp only [go_sem]) (by simp only [go_sem]) rfl rfl Hp.ins_same (.inr (hW _ hfoot)) (by simp only [List.size_toArray,hsl1];omega) ?_
  simp only [go_sem,jq,jj,jy,jv,jk,jx,ha,hlt,Option.map_some,za4,Option.isSome_some,jW,Nat.zero_add,Nat.add_zero,List.toList_toArray,Hp.ins_ins]
  rw [show spl (i * 3+1) [.int .i64 (κ+1)] (spl (i * 3) [.int .i64 (κ)] X0)=spl (i * 3) [.int .i64 (κ),.int .i64 (κ+1)] X0 from zml (m:=[.int .i64 (κ)]) (by simp only [List.length_cons,List.length_nil];omega)]
  refine zie rfl ?_
  refine Evs ?_
  rw [zjz (by omega)]
  have hsl2:(spl (i * 3) [.int .i64 (κ),.int .i64 (κ+1)] X0).length=X0.length:=zmm (by simp only [List.length_cons,List.length_nil];omega)
  refine zlS [0,0,0,0,0,1] rfl ?_
  simp only [go_sem,jq,jj,jy,jv,jk,jx,ha,hlt,Option.map_some,za4,Option.isSome_some,jW,Nat.zero_add,Nat.add_zero,List.toList_toArray,Hp.ins_ins]
  refine zl3 (by simp only [go_sem]) (by simp only [go_sem]) rfl rfl Hp.ins_same (.inr (hW _ hfoot)) (by simp only [List.size_toArray,hsl2];omega) ?_
  simp only [go_sem,jq,jj,jy,jv,jk,jx,ha,hlt,Option.map_some,za4,Option.isSome_some,jW,Nat.zero_add,Nat.add_zero,List.toList_toArray,Hp.ins_ins]
  rw [show spl (i * 3+2) [.int .i64 (κ+1+1)] (spl (i * 3) [.int .i64 (κ),.int .i64 (κ+1)] X0)=spl (i * 3) [.int .i64 (κ),.int .i64 (κ+1),.int .i64 (κ+1+1)] X0 from zml (m:=[.int .i64 (κ),.int .i64 (κ+1)]) (by simp only [List.length_cons,List.length_nil];omega)]
  refine zc4 rfl ?_
  refine Evs ?_
  rw [zjz (by omega)]
  refine Wk ?_
  refine ⟨(i+1,hk'.ins g (.cells (spl (i * 3) [.int .i64 (κ),.int .i64 (κ+1),.int .i64 (κ+1+1)] X0).toArray e (0,0))),⟨hlt,?_,fun x hx=>?_⟩,by simp only;omega,?_⟩
  ·rw [← zmh hlt,← zmj (by rw [zmg];exact hlt),hX]
   simp only
   rw [Hp.ins_same]
   congr 4
   simp only [show k+((cntL (List.take i s.l):Nat):Int)=κ from hκ,Mk.put,Enc.enc,DPart.cells]
   try simp only [mkB,Int.add_assoc,Int.reduceAdd]
   try rfl
  ·simp only at hx ⊢
   rw [← zmh hlt] at hx
   rcases List.mem_or_eq_of_mem_set hx with hx|rfl
   ·exact hok x hx
   ·exact (show I64 _∧I64 _∧I64 _ from by unfold I64;simp only [Mk.put];omega)
  ·refine Evs ?_
   exact ⟨zjB (by rw [hcnt,hc];omega),zjB (zjA hlt (by omega))⟩
 ·have hge:=zjI hd
  have hie:i=s.l.length:=Nat.le_antisymm hi hge
  refine Wk ?_
  have hp:mkd s.l k i=(Mk.put s k).l:=zmf hge
  rw [hp] at hb0 hok
  have hll:(Mk.put s k).l.length=s.l.length:=zl9
  have hsl:=zmn (α:=DPart) (h:=hk') (g:=g) (cap:=s.cap) (by decide) hb0 (by rw [hll];exact hs.1) hs.2.2.2.2 hok
  have hsv:(Sl.mk (some ⟨g,0,none⟩) s.cap (Mk.put s k).l:Sl DPart)=Mk.put s k:=by rw [← ha];rfl
  rw [hsv] at hsl
  refine ⟨by rw [hie,List.take_length,hcs],hsl,fun _=>⟨⟨g,_,e,ha,hb0,?_⟩,fun x hx=>trivial⟩⟩
  rw [List.size_toArray,zmi,hll,hsp]
  rfl
theorem zzb (s:Sl DPoint) (k:Int) (h:Hp) (hs:s.Ok h) (ho:Foot.own h s) (hn:(Foot.foot s).Nodup) (hk:0≤k∧k+(Mk.cnt s:Nat)≤4611686018427387904):Cw jV 135 [s.val,.int .i64 k] h (fun b=>b ∈ Foot.foot s) fun v h'=>v=.int .i64 (k+(Mk.cnt s:Nat))∧Enc.ok h' (Mk.put s k)∧Foot.own h' (Mk.put s k):=by
 have hmax:=hs.max
 have hcs:Mk.cnt s=cntL s.l:=rfl
 by_cases hl:s.l=[]
 ·refine zlI (fun A W=>by simp) Tryz.func135 rfl rfl (by simp)  (fun b hb=>Foot.dom ho b hb) fun W0 hW=>?_
  refine Wk ?_
  refine zde (ι:=Unit) (fun _=>⟨[(0,true,.c (.v s.val)),(1,true,.c (.v (.int .i64 k))),(5,true,.c (.v (.int .i64 0)))],[],h,0⟩) (fun _=>True) (fun _=>0) () trivial ?_ ?_
  ·exact Evc
  rintro _ _
  refine Wk ?_
  refine zc9 rfl (fun hc=>?_) (fun hc=>?_)
  ·exact absurd (of_decide_eq_true hc) (by rw [hl];simp)
  ·refine Wk ?_
   refine ⟨by rw [hcs,hl];simp [cntL],⟨(by simp [Mk.put,hl,mkL]),fun hne=>(hne (by simp [Mk.put,hl,mkL])).elim,fun i x hx=>by simp [Mk.put,hl,mkL] at hx,fun x hx=>by simp [Mk.put,hl,mkL] at hx,hs.2.2.2.2⟩,fun hne=>(hne (by simp [Mk.put,hl,mkL])).elim⟩
 obtain ⟨g,e,spare,ha,hb,hsp⟩:=zmo (by decide) hs ho hl
 have hsz:Enc.size DPoint=2:=rfl
 have hfoot:g ∈ Foot.foot s:=by
  rw [show Foot.foot s=_ from Sl.foot_ne hl]
  simp [Sl.blkOf,ha]
 refine zlI (fun A W=>by simp) Tryz.func135 rfl rfl (by simp)  (fun b hb=>Foot.dom ho b hb) fun W0 hW=>?_
 refine Wk ?_
 refine zde (ι:=Nat × Hp) (fun i=>⟨[(0,true,.c (.v s.val)),(1,true,.c (.v (.int .i64 (k+(cntL (s.l.take i.1):Nat))))),(5,true,.c (.v (.int .i64 i.1)))],[],i.2,0⟩) (fun i=>i.1≤s.l.length∧i.2 g=some (.cells (rowL (mkd s.l k i.1) spare).toArray e (0,0))∧∀ x ∈ mkd s.l k i.1,Enc.ok i.2 x) (fun i=>s.l.length - i.1) (0,h) ⟨Nat.zero_le _,by rw [zme];exact hb,by rw [zme];exact hs.2.2.2.1⟩ ?_ ?_
 ·refine Evs ?_
  exact ⟨zjB (by rw [zl6];omega),rfl⟩
 rintro ⟨i,hk'⟩ ⟨hi,hb0,hok⟩
 refine Wk ?_
 refine zc9 rfl (fun hd=>?_) (fun hd=>?_)
 ·have hlt:=zjH hd
  have hcnt:=zmc hlt
  have hcle:=zmd (l:=s.l) (i:=i+1)
  have hc:Mk.cnt s.l[i]=2:=rfl
  generalize hκ:k+((cntL (s.l.take i):Nat):Int)=κ
  have hκ0:0≤κ∧κ+2≤4611686018427387904:=by omega
  have hlen:i * 2+2≤(rowL (mkd s.l k i) spare).length:=by rw [zmi,zmg,hsz];omega
  generalize hX:rowL (mkd s.l k i) spare=X0 at hb0 hlen
  refine zc5 ?_
  refine Evs ?_
  refine zc3 ?_
  refine zc8 ?_
  refine zlS [0,0,0,0,0,0,1] rfl ?_
  simp only [go_sem,jq,jj,jy,jv,jk,jx,ha,hlt,Option.map_some,za4,Option.isSome_some,jW,Nat.zero_add,Nat.add_zero,List.toList_toArray,Hp.ins_ins]
  refine zhF (fun _=>zy6 _ _ (by omega)) ?_
  simp only [go_sem,jq,jj,jy,jv,jk,jx,ha,hlt,Option.map_some,za4,Option.isSome_some,jW,Nat.zero_add,Nat.add_zero,List.toList_toArray,Hp.ins_ins]
  refine zl3 (by simp only [go_sem]) (by simp only [go_sem]) rfl rfl hb0 (.inr (hW _ hfoot)) (by simp only [List.size_toArray];omega) ?_
  simp only [go_sem,jq,jj,jy,jv,jk,jx,ha,hlt,Option.map_some,za4,Option.isSome_some,jW,Nat.zero_add,Nat.add_zero,List.toList_toArray,Hp.ins_ins]
  refine zie rfl ?_
  refine Evs ?_
  rw [zjz (by omega)]
  have hsl1:(spl (i * 2) [.string (mkT (κ))] X0).length=X0.length:=zmm (by simp only [List.length_cons,List.length_nil];omega)
  refine zlS [0,0,0,0,0,0,0,1] rfl ?_
  simp only [go_sem,jq,jj,jy,jv,jk,jx,ha,hlt,Option.map_some,za4,Option.isSome_some,jW,Nat.zero_add,Nat.add_zero,List.toList_toArray,Hp.ins_ins]
  refine ⟨by decide,?_⟩
  refine zl3 (by simp only [go_sem]) (by simp only [go_sem]) rfl rfl Hp.ins_same (.inr (hW _ hfoot)) (by simp only [List.size_toArray,hsl1];omega) ?_
  simp only [go_sem,jq,jj,jy,jv,jk,jx,ha,hlt,Option.map_some,za4,Option.isSome_some,jW,Nat.zero_add,Nat.add_zero,List.toList_toArray,Hp.ins_ins]
  rw [show spl (i * 2+1) [.bool ((κ+1).tmod 3 == 0)] (spl (i * 2) [.string (mkT (κ))] X0)=spl (i * 2) [.string (mkT (κ)),.bool ((κ+1).tmod 3 == 0)] X0 from zml (m:=[.string (mkT (κ))]) (by simp only [List.length_cons,List.length_nil];omega)]
  refine zc4 rfl ?_
  refine Evs ?_
  rw [zjz (by omega)]
  refine Wk ?_
  refine ⟨(i+1,hk'.ins g (.cells (spl (i * 2) [.string (mkT (κ)),.bool ((κ+1).tmod 3 == 0)] X0).toArray e (0,0))),⟨hlt,?_,fun x hx=>?_⟩,by simp only;omega,?_⟩
  ·rw [← zmh hlt,← zmj (by rw [zmg];exact hlt),hX]
   simp only
   rw [Hp.ins_same]
   congr 4
   simp only [show k+((cntL (List.take i s.l):Nat):Int)=κ from hκ,Mk.put,Enc.enc,DPoint.cells]
   try simp only [mkB,Int.add_assoc,Int.reduceAdd]
   try rfl
  ·simp only at hx ⊢
   rw [← zmh hlt] at hx
   rcases List.mem_or_eq_of_mem_set hx with hx|rfl
   ·exact hok x hx
   ·exact (show zkA _ from Nat.le_trans (zy5 _) (by decide))
  ·refine Evs ?_
   exact ⟨zjB (by rw [hcnt,hc];omega),zjB (zjA hlt (by omega))⟩
 ·have hge:=zjI hd
  have hie:i=s.l.length:=Nat.le_antisymm hi hge
  refine Wk ?_
  have hp:mkd s.l k i=(Mk.put s k).l:=zmf hge
  rw [hp] at hb0 hok
  have hll:(Mk.put s k).l.length=s.l.length:=zl9
  have hsl:=zmn (α:=DPoint) (h:=hk') (g:=g) (cap:=s.cap) (by decide) hb0 (by rw [hll];exact hs.1) hs.2.2.2.2 hok
  have hsv:(Sl.mk (some ⟨g,0,none⟩) s.cap (Mk.put s k).l:Sl DPoint)=Mk.put s k:=by rw [← ha];rfl
  rw [hsv] at hsl
  refine ⟨by rw [hie,List.take_length,hcs],hsl,fun _=>⟨⟨g,_,e,ha,hb0,?_⟩,fun x hx=>trivial⟩⟩
  rw [List.size_toArray,zmi,hll,hsp]
  rfl
theorem zzc (s:Sl DSegment) (k:Int) (h:Hp) (hs:s.Ok h) (ho:Foot.own h s) (hn:(Foot.foot s).Nodup) (hk:0≤k∧k+(Mk.cnt s:Nat)≤4611686018427387904):Cw jV 136 [s.val,.int .i64 k] h (fun b=>b ∈ Foot.foot s) fun v h'=>v=.int .i64 (k+(Mk.cnt s:Nat))∧Enc.ok h' (Mk.put s k)∧Foot.own h' (Mk.put s k):=by
 have hmax:=hs.max
 have hcs:Mk.cnt s=cntL s.l:=rfl
 by_cases hl:s.l=[]
 ·refine zlI (fun A W=>by simp) Tryz.func136 rfl rfl (by simp)  (fun b hb=>Foot.dom ho b hb) fun W0 hW=>?_
  refine Wk ?_
  refine zde (ι:=Unit) (fun _=>⟨[(0,true,.c (.v s.val)),(1,true,.c (.v (.int .i64 k))),(5,true,.c (.v (.int .i64 0)))],[],h,0⟩) (fun _=>True) (fun _=>0) () trivial ?_ ?_
  ·exact Evc
  rintro _ _
  refine Wk ?_
  refine zc9 rfl (fun hc=>?_) (fun hc=>?_)
  ·exact absurd (of_decide_eq_true hc) (by rw [hl];simp)
  ·refine Wk ?_
   refine ⟨by rw [hcs,hl];simp [cntL],⟨(by simp [Mk.put,hl,mkL]),fun hne=>(hne (by simp [Mk.put,hl,mkL])).elim,fun i x hx=>by simp [Mk.put,hl,mkL] at hx,fun x hx=>by simp [Mk.put,hl,mkL] at hx,hs.2.2.2.2⟩,fun hne=>(hne (by simp [Mk.put,hl,mkL])).elim⟩
 obtain ⟨g,e,spare,ha,hb,hsp⟩:=zmo (by decide) hs ho hl
 have hsz:Enc.size DSegment=5:=rfl
 have hfoot:g ∈ Foot.foot s:=by
  rw [show Foot.foot s=_ from Sl.foot_ne hl]
  simp [Sl.blkOf,ha]
 refine zlI (fun A W=>by simp) Tryz.func136 rfl rfl (by simp)  (fun b hb=>Foot.dom ho b hb) fun W0 hW=>?_
 refine Wk ?_
 refine zde (ι:=Nat × Hp) (fun i=>⟨[(0,true,.c (.v s.val)),(1,true,.c (.v (.int .i64 (k+(cntL (s.l.take i.1):Nat))))),(5,true,.c (.v (.int .i64 i.1)))],[],i.2,0⟩) (fun i=>i.1≤s.l.length∧i.2 g=some (.cells (rowL (mkd s.l k i.1) spare).toArray e (0,0))∧∀ x ∈ mkd s.l k i.1,Enc.ok i.2 x) (fun i=>s.l.length - i.1) (0,h) ⟨Nat.zero_le _,by rw [zme];exact hb,by rw [zme];exact hs.2.2.2.1⟩ ?_ ?_
 ·refine Evs ?_
  exact ⟨zjB (by rw [zl6];omega),rfl⟩
 rintro ⟨i,hk'⟩ ⟨hi,hb0,hok⟩
 refine Wk ?_
 refine zc9 rfl (fun hd=>?_) (fun hd=>?_)
 ·have hlt:=zjH hd
  have hcnt:=zmc hlt
  have hcle:=zmd (l:=s.l) (i:=i+1)
  have hc:Mk.cnt s.l[i]=5:=rfl
  generalize hκ:k+((cntL (s.l.take i):Nat):Int)=κ
  have hκ0:0≤κ∧κ+5≤4611686018427387904:=by omega
  have hlen:i * 5+5≤(rowL (mkd s.l k i) spare).length:=by rw [zmi,zmg,hsz];omega
  generalize hX:rowL (mkd s.l k i) spare=X0 at hb0 hlen
  refine zc5 ?_
  refine Evs ?_
  refine zc3 ?_
  refine zc8 ?_
  refine zlS [0,0,0,0,0,1] rfl ?_
  simp only [go_sem,jq,jj,jy,jv,jk,jx,ha,hlt,Option.map_some,za4,Option.isSome_some,jW,Nat.zero_add,Nat.add_zero,List.toList_toArray,Hp.ins_ins]
  refine zl3 (by simp only [go_sem]) (by simp only [go_sem]) rfl rfl hb0 (.inr (hW _ hfoot)) (by simp only [List.size_toArray];omega) ?_
  simp only [go_sem,jq,jj,jy,jv,jk,jx,ha,hlt,Option.map_some,za4,Option.isSome_some,jW,Nat.zero_add,Nat.add_zero,List.toList_toArray,Hp.ins_ins]
  refine zie rfl ?_
  refine Evs ?_
  rw [zjz (by omega)]
  have hsl1:(spl (i * 5) [.int .i64 (κ)] X0).length=X0.length:=zmm (by simp only [List.length_cons,List.length_nil];omega)
  refine zlS [0,0,0,0,0,1] rfl ?_
  simp only [go_sem,jq,jj,jy,jv,jk,jx,ha,hlt,Option.map_some,za4,Option.isSome_some,jW,Nat.zero_add,Nat.add_zero,List.toList_toArray,Hp.ins_ins]
  refine zl3 (by simp only [go_sem]) (by simp only [go_sem]) rfl rfl Hp.ins_same (.inr (hW _ hfoot)) (by simp only [List.size_toArray,hsl1];omega) ?_
  simp only [go_sem,jq,jj,jy,jv,jk,jx,ha,hlt,Option.map_some,za4,Option.isSome_some,jW,Nat.zero_add,Nat.add_zero,List.toList_toArray,Hp.ins_ins]
  rw [show spl (i * 5+1) [.int .i64 (κ+1)] (spl (i * 5) [.int .i64 (κ)] X0)=spl (i * 5) [.int .i64 (κ),.int .i64 (κ+1)] X0 from zml (m:=[.int .i64 (κ)]) (by simp only [List.length_cons,List.length_nil];omega)]
  refine zie rfl ?_
  refine Evs ?_
  rw [zjz (by omega)]
  have hsl2:(spl (i * 5) [.int .i64 (κ),.int .i64 (κ+1)] X0).length=X0.length:=zmm (by simp only [List.length_cons,List.length_nil];omega)
  refine zlS [0,0,0,0,0,1] rfl ?_
  simp only [go_sem,jq,jj,jy,jv,jk,jx,ha,hlt,Option.map_some,za4,Option.isSome_some,jW,Nat.zero_add,Nat.add_zero,List.toList_toArray,Hp.ins_ins]
  refine zl3 (by simp only [go_sem]) (by simp only [go_sem]) rfl rfl Hp.ins_same (.inr (hW _ hfoot)) (by simp only [List.size_toArray,hsl2];omega) ?_
  simp only [go_sem,jq,jj,jy,jv,jk,jx,ha,hlt,Option.map_some,za4,Option.isSome_some,jW,Nat.zero_add,Nat.add_zero,List.toList_toArray,Hp.ins_ins]
  rw [show spl (i * 5+2) [.int .i64 (κ+1+1)] (spl (i * 5) [.int .i64 (κ),.int .i64 (κ+1)] X0)=spl (i * 5) [.int .i64 (κ),.int .i64 (κ+1),.int .i64 (κ+1+1)] X0 from zml (m:=[.int .i64 (κ),.int .i64 (κ+1)]) (by simp only [List.length_cons,List.length_nil];omega)]
  refine zie rfl ?_
  refine Evs ?_
  rw [zjz (by omega)]
  have hsl3:(spl (i * 5) [.int .i64 (κ),.int .i64 (κ+1),.int .i64 (κ+1+1)] X0).length=X0.length:=zmm (by simp only [List.length_cons,List.length_nil];omega)
  refine zlS [0,0,0,0,0,1] rfl ?_
  simp only [go_sem,jq,jj,jy,jv,jk,jx,ha,hlt,Option.map_some,za4,Option.isSome_some,jW,Nat.zero_add,Nat.add_zero,List.toList_toArray,Hp.ins_ins]
  refine zl3 (by simp only [go_sem]) (by simp only [go_sem]) rfl rfl Hp.ins_same (.inr (hW _ hfoot)) (by simp only [List.size_toArray,hsl3];omega) ?_
  simp only [go_sem,jq,jj,jy,jv,jk,jx,ha,hlt,Option.map_some,za4,Option.isSome_some,jW,Nat.zero_add,Nat.add_zero,List.toList_toArray,Hp.ins_ins]
  rw [show spl (i * 5+3) [.int .i64 (κ+1+1+1)] (spl (i * 5) [.int .i64 (κ),.int .i64 (κ+1),.int .i64 (κ+1+1)] X0)=spl (i * 5) [.int .i64 (κ),.int .i64 (κ+1),.int .i64 (κ+1+1),.int .i64 (κ+1+1+1)] X0 from zml (m:=[.int .i64 (κ),.int .i64 (κ+1),.int .i64 (κ+1+1)]) (by simp only [List.length_cons,List.length_nil];omega)]
  refine zie rfl ?_
  refine Evs ?_
  rw [zjz (by omega)]
  have hsl4:(spl (i * 5) [.int .i64 (κ),.int .i64 (κ+1),.int .i64 (κ+1+1),.int .i64 (κ+1+1+1)] X0).length=X0.length:=zmm (by simp only [List.length_cons,List.length_nil];omega)
  refine zlS [0,0,0,0,0,0,0,1] rfl ?_
  simp only [go_sem,jq,jj,jy,jv,jk,jx,ha,hlt,Option.map_some,za4,Option.isSome_some,jW,Nat.zero_add,Nat.add_zero,List.toList_toArray,Hp.ins_ins]
  refine ⟨by decide,?_⟩
  refine zl3 (by simp only [go_sem]) (by simp only [go_sem]) rfl rfl Hp.ins_same (.inr (hW _ hfoot)) (by simp only [List.size_toArray,hsl4];omega) ?_
  simp only [go_sem,jq,jj,jy,jv,jk,jx,ha,hlt,Option.map_some,za4,Option.isSome_some,jW,Nat.zero_add,Nat.add_zero,List.toList_toArray,Hp.ins_ins]
  rw [show spl (i * 5+4) [.bool ((κ+1+1+1+1).tmod 3 == 0)] (spl (i * 5) [.int .i64 (κ),.int .i64 (κ+1),.int .i64 (κ+1+1),.int .i64 (κ+1+1+1)] X0)=spl (i * 5) [.int .i64 (κ),.int .i64 (κ+1),.int .i64 (κ+1+1),.int .i64 (κ+1+1+1),.bool ((κ+1+1+1+1).tmod 3 == 0)] X0 from zml (m:=[.int .i64 (κ),.int .i64 (κ+1),.int .i64 (κ+1+1),.int .i64 (κ+1+1+1)]) (by simp only [List.length_cons,List.length_nil];omega)]
  refine zc4 rfl ?_
  refine Evs ?_
  rw [zjz (by omega)]
  refine Wk ?_
  refine ⟨(i+1,hk'.ins g (.cells (spl (i * 5) [.int .i64 (κ),.int .i64 (κ+1),.int .i64 (κ+1+1),.int .i64 (κ+1+1+1),.bool ((κ+1+1+1+1).tmod 3 == 0)] X0).toArray e (0,0))),⟨hlt,?_,fun x hx=>?_⟩,by simp only;omega,?_⟩
  ·rw [← zmh hlt,← zmj (by rw [zmg];exact hlt),hX]
   simp only
   rw [Hp.ins_same]
   congr 4
   simp only [show k+((cntL (List.take i s.l):Nat):Int)=κ from hκ,Mk.put,Enc.enc,DSegment.cells]
   try simp only [mkB,Int.add_assoc,Int.reduceAdd]
   try rfl
  ·simp only at hx ⊢
   rw [← zmh hlt] at hx
   rcases List.mem_or_eq_of_mem_set hx with hx|rfl
   ·exact hok x hx
   ·exact (show I64 _∧I64 _∧I64 _∧I64 _ from by unfold I64;simp only [Mk.put];omega)
  ·refine Evs ?_
   exact ⟨zjB (by rw [hcnt,hc];omega),zjB (zjA hlt (by omega))⟩
 ·have hge:=zjI hd
  have hie:i=s.l.length:=Nat.le_antisymm hi hge
  refine Wk ?_
  have hp:mkd s.l k i=(Mk.put s k).l:=zmf hge
  rw [hp] at hb0 hok
  have hll:(Mk.put s k).l.length=s.l.length:=zl9
  have hsl:=zmn (α:=DSegment) (h:=hk') (g:=g) (cap:=s.cap) (by decide) hb0 (by rw [hll];exact hs.1) hs.2.2.2.2 hok
  have hsv:(Sl.mk (some ⟨g,0,none⟩) s.cap (Mk.put s k).l:Sl DSegment)=Mk.put s k:=by rw [← ha];rfl
  rw [hsv] at hsl
  refine ⟨by rw [hie,List.take_length,hcs],hsl,fun _=>⟨⟨g,_,e,ha,hb0,?_⟩,fun x hx=>trivial⟩⟩
  rw [List.size_toArray,zmi,hll,hsp]
  rfl
theorem zzd (s:Sl DShip) (k:Int) (h:Hp) (hs:s.Ok h) (ho:Foot.own h s) (hn:(Foot.foot s).Nodup) (hk:0≤k∧k+(Mk.cnt s:Nat)≤4611686018427387904):Cw jV 85 [s.val,.int .i64 k] h (fun b=>b ∈ Foot.foot s) fun v h'=>v=.int .i64 (k+(Mk.cnt s:Nat))∧Enc.ok h' (Mk.put s k)∧Foot.own h' (Mk.put s k):=by
 have hmax:=hs.max
 have hcs:Mk.cnt s=cntL s.l:=rfl
 by_cases hl:s.l=[]
 ·refine zlI (fun A W=>by simp) Tryz.func85 rfl rfl (by simp)  (fun b hb=>Foot.dom ho b hb) fun W0 hW=>?_
  refine Wk ?_
  refine zde (ι:=Unit) (fun _=>⟨[(0,true,.c (.v s.val)),(1,true,.c (.v (.int .i64 k))),(5,true,.c (.v (.int .i64 0)))],[],h,0⟩) (fun _=>True) (fun _=>0) () trivial ?_ ?_
  ·exact Evc
  rintro _ _
  refine Wk ?_
  refine zc9 rfl (fun hc=>?_) (fun hc=>?_)
  ·exact absurd (of_decide_eq_true hc) (by rw [hl];simp)
  ·refine Wk ?_
   refine ⟨by rw [hcs,hl];simp [cntL],⟨(by simp [Mk.put,hl,mkL]),fun hne=>(hne (by simp [Mk.put,hl,mkL])).elim,fun i x hx=>by simp [Mk.put,hl,mkL] at hx,fun x hx=>by simp [Mk.put,hl,mkL] at hx,hs.2.2.2.2⟩,fun hne=>(hne (by simp [Mk.put,hl,mkL])).elim⟩
 obtain ⟨g,e,spare,ha,hb,hsp⟩:=zmo (by decide) hs ho hl
 have hsz:Enc.size DShip=6:=rfl
 have hfoot:g ∈ Foot.foot s:=by
  rw [show Foot.foot s=_ from Sl.foot_ne hl]
  simp [Sl.blkOf,ha]
 refine zlI (fun A W=>by simp) Tryz.func85 rfl rfl (by simp)  (fun b hb=>Foot.dom ho b hb) fun W0 hW=>?_
 refine Wk ?_
 refine zde (ι:=Nat × Hp) (fun i=>⟨[(0,true,.c (.v s.val)),(1,true,.c (.v (.int .i64 (k+(cntL (s.l.take i.1):Nat))))),(5,true,.c (.v (.int .i64 i.1)))],[],i.2,0⟩) (fun i=>i.1≤s.l.length∧i.2 g=some (.cells (rowL (mkd s.l k i.1) spare).toArray e (0,0))∧∀ x ∈ mkd s.l k i.1,Enc.ok i.2 x) (fun i=>s.l.length - i.1) (0,h) ⟨Nat.zero_le _,by rw [zme];exact hb,by rw [zme];exact hs.2.2.2.1⟩ ?_ ?_
 ·refine Evs ?_
  exact ⟨zjB (by rw [zl6];omega),rfl⟩
 rintro ⟨i,hk'⟩ ⟨hi,hb0,hok⟩
 refine Wk ?_
 refine zc9 rfl (fun hd=>?_) (fun hd=>?_)
 ·have hlt:=zjH hd
  have hcnt:=zmc hlt
  have hcle:=zmd (l:=s.l) (i:=i+1)
  have hc:Mk.cnt s.l[i]=6:=rfl
  generalize hκ:k+((cntL (s.l.take i):Nat):Int)=κ
  have hκ0:0≤κ∧κ+6≤4611686018427387904:=by omega
  have hlen:i * 6+6≤(rowL (mkd s.l k i) spare).length:=by rw [zmi,zmg,hsz];omega
  generalize hX:rowL (mkd s.l k i) spare=X0 at hb0 hlen
  refine zc5 ?_
  refine Evs ?_
  refine zc3 ?_
  refine zc8 ?_
  refine zlS [0,0,0,0,0,0,1] rfl ?_
  simp only [go_sem,jq,jj,jy,jv,jk,jx,ha,hlt,Option.map_some,za4,Option.isSome_some,jW,Nat.zero_add,Nat.add_zero,List.toList_toArray,Hp.ins_ins]
  refine zhF (fun _=>zy6 _ _ (by omega)) ?_
  simp only [go_sem,jq,jj,jy,jv,jk,jx,ha,hlt,Option.map_some,za4,Option.isSome_some,jW,Nat.zero_add,Nat.add_zero,List.toList_toArray,Hp.ins_ins]
  refine zl3 (by simp only [go_sem]) (by simp only [go_sem]) rfl rfl hb0 (.inr (hW _ hfoot)) (by simp only [List.size_toArray];omega) ?_
  simp only [go_sem,jq,jj,jy,jv,jk,jx,ha,hlt,Option.map_some,za4,Option.isSome_some,jW,Nat.zero_add,Nat.add_zero,List.toList_toArray,Hp.ins_ins]
  refine zie rfl ?_
  refine Evs ?_
  rw [zjz (by omega)]
  have hsl1:(spl (i * 6) [.string (mkT (κ))] X0).length=X0.length:=zmm (by simp only [List.length_cons,List.length_nil];omega)
  refine zlS [0,0,0,0,0,1] rfl ?_
  simp only [go_sem,jq,jj,jy,jv,jk,jx,ha,hlt,Option.map_some,za4,Option.isSome_some,jW,Nat.zero_add,Nat.add_zero,List.toList_toArray,Hp.ins_ins]
  refine zl3 (by simp only [go_sem]) (by simp only [go_sem]) rfl rfl Hp.ins_same (.inr (hW _ hfoot)) (by simp only [List.size_toArray,hsl1];omega) ?_
  simp only [go_sem,jq,jj,jy,jv,jk,jx,ha,hlt,Option.map_some,za4,Option.isSome_some,jW,Nat.zero_add,Nat.add_zero,List.toList_toArray,Hp.ins_ins]
  rw [show spl (i * 6+1) [.int .i64 (κ+1)] (spl (i * 6) [.string (mkT (κ))] X0)=spl (i * 6) [.string (mkT (κ)),.int .i64 (κ+1)] X0 from zml (m:=[.string (mkT (κ))]) (by simp only [List.length_cons,List.length_nil];omega)]
  refine zie rfl ?_
  refine Evs ?_
  rw [zjz (by omega)]
  have hsl2:(spl (i * 6) [.string (mkT (κ)),.int .i64 (κ+1)] X0).length=X0.length:=zmm (by simp only [List.length_cons,List.length_nil];omega)
  refine zlS [0,0,0,0,0,1] rfl ?_
  simp only [go_sem,jq,jj,jy,jv,jk,jx,ha,hlt,Option.map_some,za4,Option.isSome_some,jW,Nat.zero_add,Nat.add_zero,List.toList_toArray,Hp.ins_ins]
  refine zl3 (by simp only [go_sem]) (by simp only [go_sem]) rfl rfl Hp.ins_same (.inr (hW _ hfoot)) (by simp only [List.size_toArray,hsl2];omega) ?_
  simp only [go_sem,jq,jj,jy,jv,jk,jx,ha,hlt,Option.map_some,za4,Option.isSome_some,jW,Nat.zero_add,Nat.add_zero,List.toList_toArray,Hp.ins_ins]
  rw [show spl (i * 6+2) [.int .i64 (κ+1+1)] (spl (i * 6) [.string (mkT (κ)),.int .i64 (κ+1)] X0)=spl (i * 6) [.string (mkT (κ)),.int .i64 (κ+1),.int .i64 (κ+1+1)] X0 from zml (m:=[.string (mkT (κ)),.int .i64 (κ+1)]) (by simp only [List.length_cons,List.length_nil];omega)]
  refine zie rfl ?_
  refine Evs ?_
  rw [zjz (by omega)]
  have hsl3:(spl (i * 6) [.string (mkT (κ)),.int .i64 (κ+1),.int .i64 (κ+1+1)] X0).length=X0.length:=zmm (by simp only [List.length_cons,List.length_nil];omega)
  refine zlS [0,0,0,0,0,1] rfl ?_
  simp only [go_sem,jq,jj,jy,jv,jk,jx,ha,hlt,Option.map_some,za4,Option.isSome_some,jW,Nat.zero_add,Nat.add_zero,List.toList_toArray,Hp.ins_ins]
  refine zl3 (by simp only [go_sem]) (by simp only [go_sem]) rfl rfl Hp.ins_same (.inr (hW _ hfoot)) (by simp only [List.size_toArray,hsl3];omega) ?_
  simp only [go_sem,jq,jj,jy,jv,jk,jx,ha,hlt,Option.map_some,za4,Option.isSome_some,jW,Nat.zero_add,Nat.add_zero,List.toList_toArray,Hp.ins_ins]
  rw [show spl (i * 6+3) [.int .i64 (κ+1+1+1)] (spl (i * 6) [.string (mkT (κ)),.int .i64 (κ+1),.int .i64 (κ+1+1)] X0)=spl (i * 6) [.string (mkT (κ)),.int .i64 (κ+1),.int .i64 (κ+1+1),.int .i64 (κ+1+1+1)] X0 from zml (m:=[.string (mkT (κ)),.int .i64 (κ+1),.int .i64 (κ+1+1)]) (by simp only [List.length_cons,List.length_nil];omega)]
  refine zie rfl ?_
  refine Evs ?_
  rw [zjz (by omega)]
  have hsl4:(spl (i * 6) [.string (mkT (κ)),.int .i64 (κ+1),.int .i64 (κ+1+1),.int .i64 (κ+1+1+1)] X0).length=X0.length:=zmm (by simp only [List.length_cons,List.length_nil];omega)
  refine zlS [0,0,0,0,0,1] rfl ?_
  simp only [go_sem,jq,jj,jy,jv,jk,jx,ha,hlt,Option.map_some,za4,Option.isSome_some,jW,Nat.zero_add,Nat.add_zero,List.toList_toArray,Hp.ins_ins]
  refine zl3 (by simp only [go_sem]) (by simp only [go_sem]) rfl rfl Hp.ins_same (.inr (hW _ hfoot)) (by simp only [List.size_toArray,hsl4];omega) ?_
  simp only [go_sem,jq,jj,jy,jv,jk,jx,ha,hlt,Option.map_some,za4,Option.isSome_some,jW,Nat.zero_add,Nat.add_zero,List.toList_toArray,Hp.ins_ins]
  rw [show spl (i * 6+4) [.int .i64 (κ+1+1+1+1)] (spl (i * 6) [.string (mkT (κ)),.int .i64 (κ+1),.int .i64 (κ+1+1),.int .i64 (κ+1+1+1)] X0)=spl (i * 6) [.string (mkT (κ)),.int .i64 (κ+1),.int .i64 (κ+1+1),.int .i64 (κ+1+1+1),.int .i64 (κ+1+1+1+1)] X0 from zml (m:=[.string (mkT (κ)),.int .i64 (κ+1),.int .i64 (κ+1+1),.int .i64 (κ+1+1+1)]) (by simp only [List.length_cons,List.length_nil];omega)]
  refine zie rfl ?_
  refine Evs ?_
  rw [zjz (by omega)]
  have hsl5:(spl (i * 6) [.string (mkT (κ)),.int .i64 (κ+1),.int .i64 (κ+1+1),.int .i64 (κ+1+1+1),.int .i64 (κ+1+1+1+1)] X0).length=X0.length:=zmm (by simp only [List.length_cons,List.length_nil];omega)
  refine zlS [0,0,0,0,0,0,0,1] rfl ?_
  simp only [go_sem,jq,jj,jy,jv,jk,jx,ha,hlt,Option.map_some,za4,Option.isSome_some,jW,Nat.zero_add,Nat.add_zero,List.toList_toArray,Hp.ins_ins]
  refine ⟨by decide,?_⟩
  refine zl3 (by simp only [go_sem]) (by simp only [go_sem]) rfl rfl Hp.ins_same (.inr (hW _ hfoot)) (by simp only [List.size_toArray,hsl5];omega) ?_
  simp only [go_sem,jq,jj,jy,jv,jk,jx,ha,hlt,Option.map_some,za4,Option.isSome_some,jW,Nat.zero_add,Nat.add_zero,List.toList_toArray,Hp.ins_ins]
  rw [show spl (i * 6+5) [.bool ((κ+1+1+1+1+1).tmod 3 == 0)] (spl (i * 6) [.string (mkT (κ)),.int .i64 (κ+1),.int .i64 (κ+1+1),.int .i64 (κ+1+1+1),.int .i64 (κ+1+1+1+1)] X0)=spl (i * 6) [.string (mkT (κ)),.int .i64 (κ+1),.int .i64 (κ+1+1),.int .i64 (κ+1+1+1),.int .i64 (κ+1+1+1+1),.bool ((κ+1+1+1+1+1).tmod 3 == 0)] X0 from zml (m:=[.string (mkT (κ)),.int .i64 (κ+1),.int .i64 (κ+1+1),.int .i64 (κ+1+1+1),.int .i64 (κ+1+1+1+1)]) (by simp only [List.length_cons,List.length_nil];omega)]
  refine zc4 rfl ?_
  refine Evs ?_
  rw [zjz (by omega)]
  refine Wk ?_
  refine ⟨(i+1,hk'.ins g (.cells (spl (i * 6) [.string (mkT (κ)),.int .i64 (κ+1),.int .i64 (κ+1+1),.int .i64 (κ+1+1+1),.int .i64 (κ+1+1+1+1),.bool ((κ+1+1+1+1+1).tmod 3 == 0)] X0).toArray e (0,0))),⟨hlt,?_,fun x hx=>?_⟩,by simp only;omega,?_⟩
  ·rw [← zmh hlt,← zmj (by rw [zmg];exact hlt),hX]
   simp only
   rw [Hp.ins_same]
   congr 4
   simp only [show k+((cntL (List.take i s.l):Nat):Int)=κ from hκ,Mk.put,Enc.enc,DShip.cells]
   try simp only [mkB,Int.add_assoc,Int.reduceAdd]
   try rfl
  ·simp only at hx ⊢
   rw [← zmh hlt] at hx
   rcases List.mem_or_eq_of_mem_set hx with hx|rfl
   ·exact hok x hx
   ·exact (show zkA _∧I64 _∧I64 _∧I64 _∧I64 _ from ⟨Nat.le_trans (zy5 _) (by decide),(by unfold I64;simp only [Mk.put];omega),(by unfold I64;simp only [Mk.put];omega),(by unfold I64;simp only [Mk.put];omega),(by unfold I64;simp only [Mk.put];omega)⟩)
  ·refine Evs ?_
   exact ⟨zjB (by rw [hcnt,hc];omega),zjB (zjA hlt (by omega))⟩
 ·have hge:=zjI hd
  have hie:i=s.l.length:=Nat.le_antisymm hi hge
  refine Wk ?_
  have hp:mkd s.l k i=(Mk.put s k).l:=zmf hge
  rw [hp] at hb0 hok
  have hll:(Mk.put s k).l.length=s.l.length:=zl9
  have hsl:=zmn (α:=DShip) (h:=hk') (g:=g) (cap:=s.cap) (by decide) hb0 (by rw [hll];exact hs.1) hs.2.2.2.2 hok
  have hsv:(Sl.mk (some ⟨g,0,none⟩) s.cap (Mk.put s k).l:Sl DShip)=Mk.put s k:=by rw [← ha];rfl
  rw [hsv] at hsl
  refine ⟨by rw [hie,List.take_length,hcs],hsl,fun _=>⟨⟨g,_,e,ha,hb0,?_⟩,fun x hx=>trivial⟩⟩
  rw [List.size_toArray,zmi,hll,hsp]
  rfl
theorem zze (s:Sl DSurge) (k:Int) (h:Hp) (hs:s.Ok h) (ho:Foot.own h s) (hn:(Foot.foot s).Nodup) (hk:0≤k∧k+(Mk.cnt s:Nat)≤4611686018427387904):Cw jV 134 [s.val,.int .i64 k] h (fun b=>b ∈ Foot.foot s) fun v h'=>v=.int .i64 (k+(Mk.cnt s:Nat))∧Enc.ok h' (Mk.put s k)∧Foot.own h' (Mk.put s k):=by
 have hmax:=hs.max
 have hcs:Mk.cnt s=cntL s.l:=rfl
 by_cases hl:s.l=[]
 ·refine zlI (fun A W=>by simp) Tryz.func134 rfl rfl (by simp)  (fun b hb=>Foot.dom ho b hb) fun W0 hW=>?_
  refine Wk ?_
  refine zde (ι:=Unit) (fun _=>⟨[(0,true,.c (.v s.val)),(1,true,.c (.v (.int .i64 k))),(5,true,.c (.v (.int .i64 0)))],[],h,0⟩) (fun _=>True) (fun _=>0) () trivial ?_ ?_
  ·exact Evc
  rintro _ _
  refine Wk ?_
  refine zc9 rfl (fun hc=>?_) (fun hc=>?_)
  ·exact absurd (of_decide_eq_true hc) (by rw [hl];simp)
  ·refine Wk ?_
   refine ⟨by rw [hcs,hl];simp [cntL],⟨(by simp [Mk.put,hl,mkL]),fun hne=>(hne (by simp [Mk.put,hl,mkL])).elim,fun i x hx=>by simp [Mk.put,hl,mkL] at hx,fun x hx=>by simp [Mk.put,hl,mkL] at hx,hs.2.2.2.2⟩,fun hne=>(hne (by simp [Mk.put,hl,mkL])).elim⟩
 obtain ⟨g,e,spare,ha,hb,hsp⟩:=zmo (by decide) hs ho hl
 have hsz:Enc.size DSurge=3:=rfl
 have hfoot:g ∈ Foot.foot s:=by
  rw [show Foot.foot s=_ from Sl.foot_ne hl]
  simp [Sl.blkOf,ha]
 refine zlI (fun A W=>by simp) Tryz.func134 rfl rfl (by simp)  (fun b hb=>Foot.dom ho b hb) fun W0 hW=>?_
 refine Wk ?_
 refine zde (ι:=Nat × Hp) (fun i=>⟨[(0,true,.c (.v s.val)),(1,true,.c (.v (.int .i64 (k+(cntL (s.l.take i.1):Nat))))),(5,true,.c (.v (.int .i64 i.1)))],[],i.2,0⟩) (fun i=>i.1≤s.l.length∧i.2 g=some (.cells (rowL (mkd s.l k i.1) spare).toArray e (0,0))∧∀ x ∈ mkd s.l k i.1,Enc.ok i.2 x) (fun i=>s.l.length - i.1) (0,h) ⟨Nat.zero_le _,by rw [zme];exact hb,by rw [zme];exact hs.2.2.2.1⟩ ?_ ?_
 ·refine Evs ?_
  exact ⟨zjB (by rw [zl6];omega),rfl⟩
 rintro ⟨i,hk'⟩ ⟨hi,hb0,hok⟩
 refine Wk ?_
 refine zc9 rfl (fun hd=>?_) (fun hd=>?_)
 ·have hlt:=zjH hd
  have hcnt:=zmc hlt
  have hcle:=zmd (l:=s.l) (i:=i+1)
  have hc:Mk.cnt s.l[i]=3:=rfl
  generalize hκ:k+((cntL (s.l.take i):Nat):Int)=κ
  have hκ0:0≤κ∧κ+3≤4611686018427387904:=by omega
  have hlen:i * 3+3≤(rowL (mkd s.l k i) spare).length:=by rw [zmi,zmg,hsz];omega
  generalize hX:rowL (mkd s.l k i) spare=X0 at hb0 hlen
  refine zc5 ?_
  refine Evs ?_
  refine zc3 ?_
  refine zc8 ?_
  refine zlS [0,0,0,0,0,1] rfl ?_
  simp only [go_sem,jq,jj,jy,jv,jk,jx,ha,hlt,Option.map_some,za4,Option.isSome_some,jW,Nat.zero_add,Nat.add_zero,List.toList_toArray,Hp.ins_ins]
  refine zl3 (by simp only [go_sem]) (by simp only [go_sem]) rfl rfl hb0 (.inr (hW _ hfoot)) (by simp only [List.size_toArray];omega) ?_
  simp only [go_sem,jq,jj,jy,jv,jk,jx,ha,hlt,Option.map_some,za4,Option.isSome_some,jW,Nat.zero_add,Nat.add_zero,List.toList_toArray,Hp.ins_ins]
  refine zie rfl ?_
  refine Evs ?_
  rw [zjz (by omega)]
  have hsl1:(spl (i * 3) [.int .i64 (κ)] X0).length=X0.length:=zmm (by simp only [List.length_cons,List.length_nil];omega)
  refine zlS [0,0,0,0,0,1] rfl ?_
  simp only [go_sem,jq,jj,jy,jv,jk,jx,ha,hlt,Option.map_some,za4,Option.isSome_some,jW,Nat.zero_add,Nat.add_zero,List.toList_toArray,Hp.ins_ins]
  refine zl3 (by simp only [go_sem]) (by simp only [go_sem]) rfl rfl Hp.ins_same (.inr (hW _ hfoot)) (by simp only [List.size_toArray,hsl1];omega) ?_
  simp only [go_sem,jq,jj,jy,jv,jk,jx,ha,hlt,Option.map_some,za4,Option.isSome_some,jW,Nat.zero_add,Nat.add_zero,List.toList_toArray,Hp.ins_ins]
  rw [show spl (i * 3+1) [.int .i64 (κ+1)] (spl (i * 3) [.int .i64 (κ)] X0)=spl (i * 3) [.int .i64 (κ),.int .i64 (κ+1)] X0 from zml (m:=[.int .i64 (κ)]) (by simp only [List.length_cons,List.length_nil];omega)]
  refine zie rfl ?_
  refine Evs ?_
  rw [zjz (by omega)]
  have hsl2:(spl (i * 3) [.int .i64 (κ),.int .i64 (κ+1)] X0).length=X0.length:=zmm (by simp only [List.length_cons,List.length_nil];omega)
  refine zlS [0,0,0,0,0,1] rfl ?_
  simp only [go_sem,jq,jj,jy,jv,jk,jx,ha,hlt,Option.map_some,za4,Option.isSome_some,jW,Nat.zero_add,Nat.add_zero,List.toList_toArray,Hp.ins_ins]
  refine zl3 (by simp only [go_sem]) (by simp only [go_sem]) rfl rfl Hp.ins_same (.inr (hW _ hfoot)) (by simp only [List.size_toArray,hsl2];omega) ?_
  simp only [go_sem,jq,jj,jy,jv,jk,jx,ha,hlt,Option.map_some,za4,Option.isSome_some,jW,Nat.zero_add,Nat.add_zero,List.toList_toArray,Hp.ins_ins]
  rw [show spl (i * 3+2) [.int .i64 (κ+1+1)] (spl (i * 3) [.int .i64 (κ),.int .i64 (κ+1)] X0)=spl (i * 3) [.int .i64 (κ),.int .i64 (κ+1),.int .i64 (κ+1+1)] X0 from zml (m:=[.int .i64 (κ),.int .i64 (κ+1)]) (by simp only [List.length_cons,List.length_nil];omega)]
  refine zc4 rfl ?_
  refine Evs ?_
  rw [zjz (by omega)]
  refine Wk ?_
  refine ⟨(i+1,hk'.ins g (.cells (spl (i * 3) [.int .i64 (κ),.int .i64 (κ+1),.int .i64 (κ+1+1)] X0).toArray e (0,0))),⟨hlt,?_,fun x hx=>?_⟩,by simp only;omega,?_⟩
  ·rw [← zmh hlt,← zmj (by rw [zmg];exact hlt),hX]
   simp only
   rw [Hp.ins_same]
   congr 4
   simp only [show k+((cntL (List.take i s.l):Nat):Int)=κ from hκ,Mk.put,Enc.enc,DSurge.cells]
   try simp only [mkB,Int.add_assoc,Int.reduceAdd]
   try rfl
  ·simp only at hx ⊢
   rw [← zmh hlt] at hx
   rcases List.mem_or_eq_of_mem_set hx with hx|rfl
   ·exact hok x hx
   ·exact (show I64 _∧I64 _∧I64 _ from by unfold I64;simp only [Mk.put];omega)
  ·refine Evs ?_
   exact ⟨zjB (by rw [hcnt,hc];omega),zjB (zjA hlt (by omega))⟩
 ·have hge:=zjI hd
  have hie:i=s.l.length:=Nat.le_antisymm hi hge
  refine Wk ?_
  have hp:mkd s.l k i=(Mk.put s k).l:=zmf hge
  rw [hp] at hb0 hok
  have hll:(Mk.put s k).l.length=s.l.length:=zl9
  have hsl:=zmn (α:=DSurge) (h:=hk') (g:=g) (cap:=s.cap) (by decide) hb0 (by rw [hll];exact hs.1) hs.2.2.2.2 hok
  have hsv:(Sl.mk (some ⟨g,0,none⟩) s.cap (Mk.put s k).l:Sl DSurge)=Mk.put s k:=by rw [← ha];rfl
  rw [hsv] at hsl
  refine ⟨by rw [hie,List.take_length,hcs],hsl,fun _=>⟨⟨g,_,e,ha,hb0,?_⟩,fun x hx=>trivial⟩⟩
  rw [List.size_toArray,zmi,hll,hsp]
  rfl
theorem zzf (c:DChart) (k:Int) (h:Hp) (hc:Enc.ok h c) (ho:Foot.own h c) (hn:(Foot.foot c).Nodup) (hk:0≤k∧k+(zmH c:Nat)≤4611686018427387904):Cw jV 84 [c.v,.int .i64 k] h (fun b=>b ∈ Foot.foot c) fun v h'=>v=.int .i64 (k+(zmH c:Nat))∧Enc.ok h' (zmG c k)∧Foot.own h' (zmG c k):=by
 have hdom:=fun b hb=>Foot.dom (x:=c) ho b hb
 have hcv:zmH c=Mk.cnt c.points+Mk.cnt c.segments:=rfl
 have hft:Foot.foot c=Foot.foot c.points ++ Foot.foot c.segments:=rfl
 rw [hft] at hn
 rw [zmx] at ho
 have hmem:∀ b,b ∈ Foot.foot c ↔ b ∈ Foot.foot c.points∨b ∈ Foot.foot c.segments:=fun b=>by rw [hft];simp only [List.mem_append,or_assoc]
 simp only [List.nodup_append,List.mem_append] at hn
 have ok0_0:Enc.ok h c.points:=hc.1
 have ow0_0:Foot.own h c.points:=ho.1
 have nd0:(Foot.foot c.points).Nodup:=hn.1
 have ok1_0:Enc.ok h c.segments:=hc.2
 have ow1_0:Foot.own h c.segments:=ho.2
 have nd1:(Foot.foot c.segments).Nodup:=hn.2.1
 have ds1_0:∀ b ∈ Foot.foot c.segments,¬ (b ∈ Foot.foot c.points):=fun b hi hq=>hn.2.2 b hq b hi rfl
 refine zlI (fun A W=>by simp) Tryz.func84 rfl rfl (by simp)  hdom fun W0 hW=>?_
 refine zie rfl ?_
 refine Evs ?_
 refine zlS [0,0,0,1] rfl ?_
 refine Evs ?_
 refine zlJ (x:=⟨jV,W0,h,_⟩) (zzb c.points (k) _ ok0_0 ow0_0 nd0 (by omega)) rfl (fun b hb=>⟨Foot.dom (x:=c.points) ow0_0 b hb,.inr (hW b ((hmem b).2 (Or.inl hb)))⟩) ?_
 rintro v h0 kp0 ⟨rfl,pk0,pw0⟩
 obtain ⟨ok1_1,ow1_1⟩:=ok_keep (x:=c.segments) ok1_0 ow1_0 ds1_0 kp0
 refine Evs ?_
 refine zlS [0,0,0,1] rfl ?_
 refine Evs ?_
 refine zlJ (x:=⟨jV,W0,h,_⟩) (zzc c.segments (k+(Mk.cnt c.points:Nat)) _ ok1_1 ow1_1 nd1 (by omega)) rfl (fun b hb=>⟨Foot.dom (x:=c.segments) ow1_1 b hb,.inr (hW b ((hmem b).2 (Or.inr hb)))⟩) ?_
 rintro v h1 kp1 ⟨rfl,pk1,pw1⟩
 have kk0_2:=ok_keep pk0 pw0 (fun b hb hi=>ds1_0 b hi (by rw [MkOk.foot] at hb;exact hb)) kp1
 obtain ⟨pk0_2,pw0_2⟩:=kk0_2
 refine Evs ?_
 repeat' first|refine Wa ?_|(simp only [go_sem,jq,jj,jy,jv,jk,jx];try rfl)|refine zc3 ?_
 exact ⟨by rw [hcv];congr 1;omega,⟨pk0_2,pk1⟩,⟨pw0_2,pw1⟩⟩
theorem zzg (c:DTide) (k:Int) (h:Hp) (hc:Enc.ok h c) (ho:Foot.own h c) (hn:(Foot.foot c).Nodup) (hk:0≤k∧k+(zmD c:Nat)≤4611686018427387904):Cw jV 133 [c.v,.int .i64 k] h (fun b=>b ∈ Foot.foot c) fun v h'=>v=.int .i64 (k+(zmD c:Nat))∧Enc.ok h' (zmC c k)∧Foot.own h' (zmC c k):=by
 have hdom:=fun b hb=>Foot.dom (x:=c) ho b hb
 have hcv:zmD c=Mk.cnt c.parts:=rfl
 have hft:Foot.foot c=Foot.foot c.parts:=rfl
 rw [hft] at hn
 rw [zmt] at ho
 have hmem:∀ b,b ∈ Foot.foot c ↔ b ∈ Foot.foot c.parts:=fun b=>by rw [hft]
 have ok0_0:Enc.ok h c.parts:=hc.2
 have ow0_0:Foot.own h c.parts:=ho
 have nd0:(Foot.foot c.parts).Nodup:=hn
 refine zlI (fun A W=>by simp) Tryz.func133 rfl rfl (by simp)  hdom fun W0 hW=>?_
 refine zie rfl ?_
 refine Evs ?_
 refine zlS [0,0,0,1] rfl ?_
 refine Evs ?_
 refine zlJ (x:=⟨jV,W0,h,_⟩) (zza c.parts (k) _ ok0_0 ow0_0 nd0 (by omega)) rfl (fun b hb=>⟨Foot.dom (x:=c.parts) ow0_0 b hb,.inr (hW b ((hmem b).2 hb))⟩) ?_
 rintro v h0 kp0 ⟨rfl,pk0,pw0⟩
 refine Evs ?_
 repeat' first|refine Wa ?_|(simp only [go_sem,jq,jj,jy,jv,jk,jx];try rfl)|refine zc3 ?_
 exact ⟨by rw [hcv],⟨hc.1,pk0⟩,pw0⟩
theorem zzh (c:DForecast) (k:Int) (h:Hp) (hc:Enc.ok h c) (ho:Foot.own h c) (hn:(Foot.foot c).Nodup) (hk:0≤k∧k+(zmF c:Nat)≤4611686018427387904):Cw jV 83 [c.v,.int .i64 k] h (fun b=>b ∈ Foot.foot c) fun v h'=>v=.int .i64 (k+(zmF c:Nat))∧Enc.ok h' (zmE c k)∧Foot.own h' (zmE c k):=by
 have hdom:=fun b hb=>Foot.dom (x:=c) ho b hb
 have hcv:zmF c=zmD c.tide+Mk.cnt c.surges:=rfl
 have hft:Foot.foot c=Foot.foot c.tide ++ Foot.foot c.surges:=rfl
 rw [hft] at hn
 rw [zmv] at ho
 have hmem:∀ b,b ∈ Foot.foot c ↔ b ∈ Foot.foot c.tide∨b ∈ Foot.foot c.surges:=fun b=>by rw [hft];simp only [List.mem_append,or_assoc]
 simp only [List.nodup_append,List.mem_append] at hn
 have ok0_0:Enc.ok h c.tide:=hc.1
 have ow0_0:Foot.own h c.tide:=ho.1
 have nd0:(Foot.foot c.tide).Nodup:=hn.1
 have ok1_0:Enc.ok h c.surges:=hc.2
 have ow1_0:Foot.own h c.surges:=ho.2
 have nd1:(Foot.foot c.surges).Nodup:=hn.2.1
 have ds1_0:∀ b ∈ Foot.foot c.surges,¬ (b ∈ Foot.foot c.tide):=fun b hi hq=>hn.2.2 b hq b hi rfl
 refine zlI (fun A W=>by simp) Tryz.func83 rfl rfl (by simp)  hdom fun W0 hW=>?_
 refine zie rfl ?_
 refine Evs ?_
 refine zlS [0,0,0,1] rfl ?_
 refine Evs ?_
 refine zlJ (x:=⟨jV,W0,h,_⟩) (zzg c.tide (k) _ ok0_0 ow0_0 nd0 (by omega)) rfl (fun b hb=>⟨Foot.dom (x:=c.tide) ow0_0 b hb,.inr (hW b ((hmem b).2 (Or.inl hb)))⟩) ?_
 rintro v h0 kp0 ⟨rfl,pk0,pw0⟩
 obtain ⟨ok1_1,ow1_1⟩:=ok_keep (x:=c.surges) ok1_0 ow1_0 ds1_0 kp0
 refine Evs ?_
 refine zlS [0,0,0,1] rfl ?_
 refine Evs ?_
 refine zlJ (x:=⟨jV,W0,h,_⟩) (zze c.surges (k+(zmD c.tide:Nat)) _ ok1_1 ow1_1 nd1 (by omega)) rfl (fun b hb=>⟨Foot.dom (x:=c.surges) ow1_1 b hb,.inr (hW b ((hmem b).2 (Or.inr hb)))⟩) ?_
 rintro v h1 kp1 ⟨rfl,pk1,pw1⟩
 have kk0_2:=ok_keep pk0 pw0 (fun b hb hi=>ds1_0 b hi (by rw [znM] at hb;exact hb)) kp1
 obtain ⟨pk0_2,pw0_2⟩:=kk0_2
 refine Evs ?_
 repeat' first|refine Wa ?_|(simp only [go_sem,jq,jj,jy,jv,jk,jx];try rfl)|refine zc3 ?_
 exact ⟨by rw [hcv];congr 1;omega,⟨pk0_2,pk1⟩,⟨pw0_2,pw1⟩⟩
theorem zzi (c:DHarbour) (k:Int) (h:Hp) (hc:Enc.ok h c) (ho:Foot.own h c) (hn:(Foot.foot c).Nodup) (hk:0≤k∧k+(zmJ c:Nat)≤4611686018427387904):Cw jV 35 [c.v,.int .i64 k] h (fun b=>b ∈ Foot.foot c) fun v h'=>v=.int .i64 (k+(zmJ c:Nat))∧Enc.ok h' (zmI c k)∧Foot.own h' (zmI c k):=by
 have hdom:=fun b hb=>Foot.dom (x:=c) ho b hb
 have hcv:zmJ c=zmF c.forecast+zmH c.chart+Mk.cnt c.fleet+zmB c.crew:=rfl
 have hft:Foot.foot c=Foot.foot c.forecast ++ Foot.foot c.chart ++ Foot.foot c.fleet ++ Foot.foot c.crew:=rfl
 rw [hft] at hn
 rw [zmz] at ho
 have hmem:∀ b,b ∈ Foot.foot c ↔ b ∈ Foot.foot c.forecast∨b ∈ Foot.foot c.chart∨b ∈ Foot.foot c.fleet∨b ∈ Foot.foot c.crew:=fun b=>by rw [hft];simp only [List.mem_append,or_assoc]
 simp only [List.nodup_append,List.mem_append] at hn
 have ok0_0:Enc.ok h c.forecast:=hc.1
 have ow0_0:Foot.own h c.forecast:=ho.1
 have nd0:(Foot.foot c.forecast).Nodup:=hn.1.1.1
 have ok1_0:Enc.ok h c.chart:=hc.2.1
 have ow1_0:Foot.own h c.chart:=ho.2.1
 have nd1:(Foot.foot c.chart).Nodup:=hn.1.1.2.1
 have ds1_0:∀ b ∈ Foot.foot c.chart,¬ (b ∈ Foot.foot c.forecast):=fun b hi hq=>hn.1.1.2.2 b hq b hi rfl
 have ok2_0:Enc.ok h c.fleet:=hc.2.2.1
 have ow2_0:Foot.own h c.fleet:=ho.2.2.1
 have nd2:(Foot.foot c.fleet).Nodup:=hn.1.2.1
 have ds2_0:∀ b ∈ Foot.foot c.fleet,¬ (b ∈ Foot.foot c.forecast):=fun b hi hq=>hn.1.2.2 b (Or.inl hq) b hi rfl
 have ds2_1:∀ b ∈ Foot.foot c.fleet,¬ (b ∈ Foot.foot c.chart):=fun b hi hq=>hn.1.2.2 b (Or.inr hq) b hi rfl
 have ok3_0:Enc.ok h c.crew:=hc.2.2.2.2
 have ow3_0:Foot.own h c.crew:=ho.2.2.2
 have nd3:(Foot.foot c.crew).Nodup:=hn.2.1
 have ds3_0:∀ b ∈ Foot.foot c.crew,¬ (b ∈ Foot.foot c.forecast):=fun b hi hq=>hn.2.2 b (Or.inl (Or.inl hq)) b hi rfl
 have ds3_1:∀ b ∈ Foot.foot c.crew,¬ (b ∈ Foot.foot c.chart):=fun b hi hq=>hn.2.2 b (Or.inl (Or.inr hq)) b hi rfl
 have ds3_2:∀ b ∈ Foot.foot c.crew,¬ (b ∈ Foot.foot c.fleet):=fun b hi hq=>hn.2.2 b (Or.inr hq) b hi rfl
 refine zlI (fun A W=>by simp) Tryz.func35 rfl rfl (by simp)  hdom fun W0 hW=>?_
 refine zie rfl ?_
 refine Evs ?_
 refine zlS [0,0,0,1] rfl ?_
 refine Evs ?_
 refine zlJ (x:=⟨jV,W0,h,_⟩) (zzh c.forecast (k) _ ok0_0 ow0_0 nd0 (by omega)) rfl (fun b hb=>⟨Foot.dom (x:=c.forecast) ow0_0 b hb,.inr (hW b ((hmem b).2 (Or.inl hb)))⟩) ?_
 rintro v h0 kp0 ⟨rfl,pk0,pw0⟩
 obtain ⟨ok1_1,ow1_1⟩:=ok_keep (x:=c.chart) ok1_0 ow1_0 ds1_0 kp0
 obtain ⟨ok2_1,ow2_1⟩:=ok_keep (x:=c.fleet) ok2_0 ow2_0 ds2_0 kp0
 obtain ⟨ok3_1,ow3_1⟩:=ok_keep (x:=c.crew) ok3_0 ow3_0 ds3_0 kp0
 refine Evs ?_
 refine zlS [0,0,0,1] rfl ?_
 refine Evs ?_
 refine zlJ (x:=⟨jV,W0,h,_⟩) (zzf c.chart (k+(zmF c.forecast:Nat)) _ ok1_1 ow1_1 nd1 (by omega)) rfl (fun b hb=>⟨Foot.dom (x:=c.chart) ow1_1 b hb,.inr (hW b ((hmem b).2 (Or.inr (Or.inl hb))))⟩) ?_
 rintro v h1 kp1 ⟨rfl,pk1,pw1⟩
 have kk0_2:=ok_keep pk0 pw0 (fun b hb hi=>ds1_0 b hi (by rw [znO] at hb;exact hb)) kp1
 obtain ⟨pk0_2,pw0_2⟩:=kk0_2
 obtain ⟨ok2_2,ow2_2⟩:=ok_keep (x:=c.fleet) ok2_1 ow2_1 ds2_1 kp1
 obtain ⟨ok3_2,ow3_2⟩:=ok_keep (x:=c.crew) ok3_1 ow3_1 ds3_1 kp1
 refine Evs ?_
 refine zlS [0,0,0,1] rfl ?_
 refine Evs ?_
 refine zlJ (x:=⟨jV,W0,h,_⟩) (zzd c.fleet (k+(zmF c.forecast:Nat)+(zmH c.chart:Nat)) _ ok2_2 ow2_2 nd2 (by omega)) rfl (fun b hb=>⟨Foot.dom (x:=c.fleet) ow2_2 b hb,.inr (hW b ((hmem b).2 (Or.inr (Or.inr (Or.inl hb)))))⟩) ?_
 rintro v h2 kp2 ⟨rfl,pk2,pw2⟩
 have kk0_3:=ok_keep pk0_2 pw0_2 (fun b hb hi=>ds2_0 b hi (by rw [znO] at hb;exact hb)) kp2
 obtain ⟨pk0_3,pw0_3⟩:=kk0_3
 have kk1_3:=ok_keep pk1 pw1 (fun b hb hi=>ds2_1 b hi (by rw [znQ] at hb;exact hb)) kp2
 obtain ⟨pk1_3,pw1_3⟩:=kk1_3
 obtain ⟨ok3_3,ow3_3⟩:=ok_keep (x:=c.crew) ok3_2 ow3_2 ds3_2 kp2
 refine Evs ?_
 refine zlS [0,0,0,1] rfl ?_
 refine Evs ?_
 refine zlJ (x:=⟨jV,W0,h,_⟩) (zy9 c.crew (k+(zmF c.forecast:Nat)+(zmH c.chart:Nat)+(Mk.cnt c.fleet:Nat)) _ ok3_3 ow3_3 nd3 (by omega)) rfl (fun b hb=>⟨Foot.dom (x:=c.crew) ow3_3 b hb,.inr (hW b ((hmem b).2 (Or.inr (Or.inr (Or.inr hb)))))⟩) ?_
 rintro v h3 kp3 ⟨rfl,pk3,pw3⟩
 have kk0_4:=ok_keep pk0_3 pw0_3 (fun b hb hi=>ds3_0 b hi (by rw [znO] at hb;exact hb)) kp3
 obtain ⟨pk0_4,pw0_4⟩:=kk0_4
 have kk1_4:=ok_keep pk1_3 pw1_3 (fun b hb hi=>ds3_1 b hi (by rw [znQ] at hb;exact hb)) kp3
 obtain ⟨pk1_4,pw1_4⟩:=kk1_4
 have kk2_4:=ok_keep pk2 pw2 (fun b hb hi=>ds3_2 b hi (by rw [MkOk.foot] at hb;exact hb)) kp3
 obtain ⟨pk2_4,pw2_4⟩:=kk2_4
 refine Evs ?_
 repeat' first|refine Wa ?_|(simp only [go_sem,jq,jj,jy,jv,jk,jx];try rfl)|refine zc3 ?_
 exact ⟨by rw [hcv];congr 1;omega,⟨pk0_4,pk1_4,pk2_4,hc.2.2.2.1,pk3⟩,⟨pw0_4,pw1_4,pw2_4,pw3⟩⟩
theorem zzj (s:Sl Int) (k:Int) (h:Hp) (hs:s.Ok h) (hm:mkL s.l k=s.l) (hk:0≤k∧k+(Mk.cnt s:Nat)≤4611686018427387904):Ct jV 38 [s.val,.int .i64 k] h fun v h'=>v=.int .i64 (k+(Mk.cnt s:Nat))∧h'=h:=by
 have hmax:=hs.max
 have hcs:Mk.cnt s=cntL s.l:=rfl
 refine zdn (fun A W=>by simp) Tryz.func38 rfl rfl (by simp) fun W0=>?_
 refine Wk ?_
 refine zde (ι:=Nat) (fun i=>⟨[(0,true,.c (.v s.val)),(1,true,.c (.v (.int .i64 (k+(cntL (s.l.take i):Nat))))),(5,true,.c (.v (.int .i64 i)))],[],h,0⟩) (fun i=>i≤s.l.length) (fun i=>s.l.length - i) 0 (Nat.zero_le _) ?_ ?_
 ·refine Evs ?_
  exact ⟨zjB (by rw [zl6];omega),rfl⟩
 intro i hi
 refine Wk ?_
 refine zc9 rfl (fun hd=>?_) (fun hd=>?_)
 ·have hlt:=zjH hd
  have hcnt:=zmc hlt
  have hcle:=zmd (l:=s.l) (i:=i+1)
  have hx:=zmL hm hlt
  generalize hκ:k+((cntL (s.l.take i):Nat):Int)=κ at hx
  have hκ0:0≤κ∧κ+(Mk.cnt s.l[i]:Nat)≤4611686018427387904:=by omega
  have hc:Mk.cnt s.l[i]=1:=rfl
  have hf:s.l[i]=κ:=hx
  repeat' first|refine Wa ?_|(simp only [go_sem,jq,jj,jy,jv,jk,jx,zkR hs hlt,hs.some hlt,hlt,jW];try rfl)|refine zc3 ?_
  refine zc9 rfl (fun hq=>?_) (fun hq=>?_)
  ·exact absurd hf (zjD hq)
  refine zc5 ?_
  refine Evs ?_
  refine zc4 rfl ?_
  refine Evs ?_
  rw [zjz (by omega)]
  refine Wk ?_
  exact ⟨i+1,hlt,by omega,zjB (by rw [hcnt,hc];omega),zjB (zjA hlt (by omega))⟩
 ·have hge:=zjI hd
  have hie:i=s.l.length:=Nat.le_antisymm hi hge
  refine Wk ?_
  rw [hie,List.take_length,hcs]
theorem zzk (n lo hi:Int) (h:Hp):Ct jV 129 [.int .i64 n,.int .i64 lo,.int .i64 hi] h fun v h'=>v=.bool (decide (lo≤n) && decide (n≤hi))∧h'=h:=by
 refine zdn (fun A W=>by simp) Tryz.func129 rfl rfl (by simp) fun W0=>?_
 exact Wk0
theorem zzl (n lo hi:Int) (h:Hp):Ct jV 151 [.int .i64 n,.int .i64 lo,.int .i64 hi] h fun v h'=>v=.bool (decide (lo≤n) && decide (n≤hi))∧h'=h:=by
 refine zdn (fun A W=>by simp) Tryz.func151 rfl rfl (by simp) fun W0=>?_
 exact Wk0
theorem zzm (n:Int) (h:Hp):Ct jV 150 [.int .i64 n] h fun v h'=>v=.bool (decide (0≤n) && decide (n≤2880))∧h'=h:=by
 refine zdn (fun A W=>by simp) Tryz.func150 rfl rfl (by simp) fun W0=>?_
 repeat' first|refine Wa ?_|refine zhF (fun _=>zzl _ _ _ _) ?_|(simp only [go_sem,jq,jj,jy,jv,jk,jx];try rfl)|refine Wb ?_|fail
theorem zzn (n m:Int) (h:Hp):Ct jV 104 [.int .i64 n,.int .i64 m] h fun v h'=>v=.bool (decide (0≤n) && decide (n < m))∧h'=h:=by
 refine zdn (fun A W=>by simp) Tryz.func104 rfl rfl (by simp) fun W0=>?_
 exact Wk0
theorem zzo (s:Sl DPassage):Con.con s=s.l:=List.map_id _
theorem w64 (n:Int):IntKind.i64.wrap n=(n+9223372036854775808) % 18446744073709551616 - 9223372036854775808:=by rw [IntKind.wrap_i64]
def zzp (l:List POption):Int:=l.foldl (fun t o=>IntKind.i64.wrap (t+o.cost)) 0
theorem zzq (s:Sl DOption):zzp (Con.con s)=s.l.foldl (fun t o=>IntKind.i64.wrap (t+o.cost)) 0:=by rw [zkz,zzp,List.foldl_map];rfl
theorem zzr {α β:Type} (f:β→α→β) (b:β) {l:List α} {k:Nat} (hk:k < l.length):(l.take (k+1)).foldl f b=f ((l.take k).foldl f b) l[k]:=by
 rw [List.take_succ_eq_append_getElem hk,List.foldl_append];rfl
theorem zzs (a:Sl DOption) (h:Hp) (ha:a.Ok h):Ct jV 49 [a.val] h fun v h'=>v=.int .i64 (zzp (Con.con a))∧h'=h:=by
 have hl:=ha.max
 rw [zzq]
 refine zdn (fun A W=>by simp) Tryz.func49 rfl rfl (by simp) fun W0=>?_
 refine Wk ?_
 refine zde (ι:=Nat) (fun k=>⟨[(3,true,.c (.v (.int .i64 ((a.l.take k).foldl (fun t o=>IntKind.i64.wrap (t+o.cost)) 0)))),(6,true,.c (.v a.val)),(7,true,.c (.v (.int .i64 a.l.length))),(8,true,.c (.v (.int .i64 k)))],[],h,0⟩) (fun k=>k≤a.l.length) (fun k=>a.l.length - k) 0 (Nat.zero_le _) ?_ ?_
 ·refine Evs ?_
  exact ⟨rfl,rfl⟩
 intro k hk
 refine Wk ?_
 refine zc9 rfl (fun hd=>?_) (fun hd=>?_)
 ·have hlt:=zjH hd
  repeat' first|refine Wa ?_|(simp only [go_sem,jq,jj,jy,jv,jk,jx,zkZ ha hlt,ha.some hlt,hlt,jW];try rfl)|refine Wb ?_|fail
  exact ⟨k+1,hlt,by omega,zjB (by rw [zzr _ _ hlt]),zjB (zjA hlt (by omega))⟩
 ·have hge:=zjI hd
  refine Wk ?_
  rw [List.take_of_length_le hge]
def zzt (l:List Int):Nat→Int
 | 0=>-1
 | k+1=>if zzt l k < 0∨l.getD k 0 < l.getD (zzt l k).toNat 0 then k else zzt l k
theorem zzu (l:List Int):∀ k,(k=0∧zzt l k=-1)∨(0≤zzt l k∧zzt l k < k)
 | 0=>.inl ⟨rfl,rfl⟩
 | k+1=>by
  right
  simp only [zzt]
  rcases zzu l k with ⟨rfl,h⟩|h
  ·rw [h];simp
  ·split <;> omega
def zzv (l:List POption):Int:=zzt (l.map (·.cost)) l.length
theorem zzw (s:Sl DOption):zzv (Con.con s)=zzt (s.l.map (·.cost)) s.l.length:=by rw [zkz,zzv,List.map_map,List.length_map];rfl
theorem zzx {l:List DOption} {k:Nat} (hk:k < l.length):(l.map (·.cost)).getD k 0=l[k].cost:=by simp [List.getD_eq_getElem?_getD,hk]
theorem zzy (a:Sl DOption) (h:Hp) (ha:a.Ok h):Ct jV 139 [a.val] h fun v h'=>v=.int .i64 (zzv (Con.con a))∧h'=h:=by
 have hl:=ha.max
 rw [zzw]
 refine zdn (fun A W=>by simp) Tryz.func139 rfl rfl (by simp) fun W0=>?_
 refine Wk ?_
 refine zde (ι:=Nat) (fun k=>⟨[(0,true,.c (.v a.val)),(3,true,.c (.v (.int .i64 (zzt (a.l.map (·.cost)) k)))),(6,true,.c (.v a.val)),(7,true,.c (.v (.int .i64 a.l.length))),(8,true,.c (.v (.int .i64 k)))],[],h,0⟩) (fun k=>k≤a.l.length) (fun k=>a.l.length - k) 0 (Nat.zero_le _) ?_ ?_
 ·refine Evs ?_
  exact ⟨rfl,rfl⟩
 intro k hk
 refine Wk ?_
 refine zc9 rfl (fun hd=>?_) (fun hd=>?_)
 ·have hlt:=zjH hd
  repeat' first|refine Wa ?_|(simp only [go_sem,jq,jj,jy,jv,jk,jx,zkZ ha hlt,ha.some hlt,hlt,jW];try rfl)|refine Wb ?_|fail
  have hstep:zzt (a.l.map (·.cost)) (k+1)=if zzt (a.l.map (·.cost)) k < 0∨(a.l.map (·.cost)).getD k 0 < (a.l.map (·.cost)).getD (zzt (a.l.map (·.cost)) k).toNat 0 then (k:Int) else zzt (a.l.map (·.cost)) k:=rfl
  rcases zzu (a.l.map (·.cost)) k with ⟨h0,hB⟩|⟨h0,hB⟩
  ·rw [hB] at hstep ⊢
   refine zi8 rfl (by kernel_rfl) ?_
   simp only [go_sem,jq,jj,jy,jv,jk,jx,Int.reduceNeg,Int.reduceLT,decide_true,Bool.not_true,Bool.false_eq_true,reduceCtorEq,false_implies,Bool.true_or]
   refine zc9 rfl (fun hq=>?_) (fun hq=>?_)
   ·refine Wk ?_
    exact ⟨k+1,hlt,by omega,zjB (by rw [hstep];simp),zjB (zjA hlt (by omega))⟩
   ·cases hq
  ·have hb:(zzt (a.l.map (·.cost)) k).toNat < a.l.length:=by omega
   have hnn:decide (zzt (a.l.map (·.cost)) k < 0)=false:=decide_eq_false (by omega)
   rw [zzx hlt,zzx hb] at hstep
   generalize zzt (a.l.map (·.cost)) k=B at *
   refine zi8 rfl (by kernel_rfl) ?_
   simp only [go_sem,jq,jj,jy,jv,jk,jx,hnn,h0,hb,zmQ ha hb,ha.some hb,Bool.not_false,Bool.false_or]
   refine ⟨fun _=>by omega,?_⟩
   refine zc9 rfl (fun hq=>?_) (fun hq=>?_)
   ·refine Wk ?_
    exact ⟨k+1,hlt,by omega,zjB (by rw [hstep,if_pos (((jQ _ _).mp hq).elim (fun e=>.inl (of_decide_eq_true e)) (fun e=>.inr (of_decide_eq_true e)))]),zjB (zjA hlt (by omega))⟩
   ·refine Wk ?_
    exact ⟨k+1,hlt,by omega,zjB (by rw [hstep,if_neg (fun e=>e.elim (by omega) (of_decide_eq_false (Bool.or_eq_false_iff.1 hq).2))]),zjB (zjA hlt (by omega))⟩
 ·have hge:=zjI hd
  refine Wk ?_
  rw [Nat.le_antisymm hk hge]
theorem zM2 (a:Sl DOption) (h:Hp) (ha:a.Ok h):Ct jV 109 [a.val] h fun v h'=>v=.int .i64 (zzv (Con.con a))∧h'=h:=by
 have hl:=ha.max
 rw [zzw]
 refine zdn (fun A W=>by simp) Tryz.func109 rfl rfl (by simp) fun W0=>?_
 refine Wk ?_
 refine zde (ι:=Nat) (fun k=>⟨[(0,true,.c (.v a.val)),(3,true,.c (.v (.int .i64 (zzt (a.l.map (·.cost)) k)))),(6,true,.c (.v a.val)),(7,true,.c (.v (.int .i64 a.l.length))),(8,true,.c (.v (.int .i64 k)))],[],h,0⟩) (fun k=>k≤a.l.length) (fun k=>a.l.length - k) 0 (Nat.zero_le _) ?_ ?_
 ·refine Evs ?_
  exact ⟨rfl,rfl⟩
 intro k hk
 refine Wk ?_
 refine zc9 rfl (fun hd=>?_) (fun hd=>?_)
 ·have hlt:=zjH hd
  repeat' first|refine Wa ?_|(simp only [go_sem,jq,jj,jy,jv,jk,jx,zkZ ha hlt,ha.some hlt,hlt,jW];try rfl)|refine Wb ?_|fail
  have hstep:zzt (a.l.map (·.cost)) (k+1)=if zzt (a.l.map (·.cost)) k < 0∨(a.l.map (·.cost)).getD k 0 < (a.l.map (·.cost)).getD (zzt (a.l.map (·.cost)) k).toNat 0 then (k:Int) else zzt (a.l.map (·.cost)) k:=rfl
  rcases zzu (a.l.map (·.cost)) k with ⟨h0,hB⟩|⟨h0,hB⟩
  ·rw [hB] at hstep ⊢
   refine zi8 rfl (by kernel_rfl) ?_
   simp only [go_sem,jq,jj,jy,jv,jk,jx,Int.reduceNeg,Int.reduceLT,decide_true,Bool.not_true,Bool.false_eq_true,reduceCtorEq,false_implies,Bool.true_or]
   refine zc9 rfl (fun hq=>?_) (fun hq=>?_)
   ·refine Wk ?_
    exact ⟨k+1,hlt,by omega,zjB (by rw [hstep];simp),zjB (zjA hlt (by omega))⟩
   ·cases hq
  ·have hb:(zzt (a.l.map (·.cost)) k).toNat < a.l.length:=by omega
   have hnn:decide (zzt (a.l.map (·.cost)) k < 0)=false:=decide_eq_false (by omega)
   rw [zzx hlt,zzx hb] at hstep
   generalize zzt (a.l.map (·.cost)) k=B at *
   refine zi8 rfl (by kernel_rfl) ?_
   simp only [go_sem,jq,jj,jy,jv,jk,jx,hnn,h0,hb,zmQ ha hb,ha.some hb,Bool.not_false,Bool.false_or]
   refine ⟨fun _=>by omega,?_⟩
   refine zc9 rfl (fun hq=>?_) (fun hq=>?_)
   ·refine Wk ?_
    exact ⟨k+1,hlt,by omega,zjB (by rw [hstep,if_pos (((jQ _ _).mp hq).elim (fun e=>.inl (of_decide_eq_true e)) (fun e=>.inr (of_decide_eq_true e)))]),zjB (zjA hlt (by omega))⟩
   ·refine Wk ?_
    exact ⟨k+1,hlt,by omega,zjB (by rw [hstep,if_neg (fun e=>e.elim (by omega) (of_decide_eq_false (Bool.or_eq_false_iff.1 hq).2))]),zjB (zjA hlt (by omega))⟩
 ·have hge:=zjI hd
  refine Wk ?_
  rw [Nat.le_antisymm hk hge]
def In (n lo hi:Int):Bool:=decide (lo≤n) && decide (n≤hi)
def zzz (n:Int):Bool:=In n 4 2880 && (Int.tmod n 4 == 0)
theorem zzA (n:Int) (h:Hp):Ct jV 263 [.int .i64 n] h fun v h'=>v=.bool (zzz n)∧h'=h:=by
 refine zdn (fun A W=>by simp) Tryz.func263 rfl rfl (by simp) fun W0=>?_
 repeat' first|refine Wa ?_|refine zhF (fun _=>zzl _ _ _ _) ?_|(simp only [go_sem,jq,jj,jy,jv,jk,jx];try rfl)|refine Wb ?_|fail
 refine ⟨fun _ _=>by decide,?_⟩
 exact Wk0
def zzB (p:DPart):Bool:=In p.amp 0 1000 && zzz p.period && In p.phase 0 (p.period - 1)
theorem zzC (p:DPart) (h:Hp) (hp:Enc.ok h p):Ct jV 252 [p.v] h fun v h'=>v=.bool (zzB p)∧h'=h:=by
 have hw:=w64 (p.period - 1)
 refine zdn (fun A W=>by simp) Tryz.func252 rfl rfl (by simp) fun W0=>?_
 repeat' first|refine Wa ?_|refine zhF (fun _=>zzk _ _ _ _) ?_|(simp only [go_sem,jq,jj,jy,jv,jk,jx];try rfl)|refine Wb ?_|fail
 refine ⟨fun _ _ _ _=>by decide,?_⟩
 repeat' first|refine Wa ?_|refine zhF (fun _=>zzk _ _ _ _) ?_|(simp only [go_sem,jq,jj,jy,jv,jk,jx];try rfl)|refine Wb ?_|fail
 congr 1;rw [Bool.eq_iff_iff];simp only [zzB,zzz,In,jJ,jQ,Bool.not_eq_true',decide_eq_true_eq,decide_eq_false_iff_not,beq_iff_eq,and_assoc]
 rw [hw]
 constructor <;> intro h <;> omega
theorem zzD (p:DPart) (h:Hp) (hp:Enc.ok h p):Ct jV 239 [p.v] h fun v h'=>v=.bool (zzB p)∧h'=h:=by
 have hw:=w64 (p.period - 1)
 refine zdn (fun A W=>by simp) Tryz.func239 rfl rfl (by simp) fun W0=>?_
 repeat' first|refine Wa ?_|refine zhF (fun _=>zzl _ _ _ _) ?_|refine zhF (fun _=>zzA _ _) ?_|(simp only [go_sem,jq,jj,jy,jv,jk,jx];try rfl)|refine Wb ?_|fail
 congr 1;rw [Bool.eq_iff_iff];simp only [zzB,zzz,In,jJ,jQ,Bool.not_eq_true',decide_eq_true_eq,decide_eq_false_iff_not,beq_iff_eq,and_assoc]
 rw [hw]
 constructor <;> intro h <;> omega
def zzE (s:DSurge):Bool:=In s.src 0 2880 && In s.low (-500) 500 && In s.high s.low 500
theorem zzF (p:DSurge) (h:Hp):Ct jV 218 [p.v] h fun v h'=>v=.bool (zzE p)∧h'=h:=by
 refine zdn (fun A W=>by simp) Tryz.func218 rfl rfl (by simp) fun W0=>?_
 repeat' first|refine Wa ?_|refine zhF (fun _=>zzk _ _ _ _) ?_|(simp only [go_sem,jq,jj,jy,jv,jk,jx];try rfl)|refine Wb ?_|fail
theorem zzG (p:DSurge) (h:Hp):Ct jV 193 [p.v] h fun v h'=>v=.bool (zzE p)∧h'=h:=by
 refine zdn (fun A W=>by simp) Tryz.func193 rfl rfl (by simp) fun W0=>?_
 repeat' first|refine Wa ?_|refine zhF (fun _=>zzm _ _) ?_|(simp only [go_sem,jq,jj,jy,jv,jk,jx];try rfl)|refine Wb ?_|fail
 congr 1;rw [Bool.eq_iff_iff];simp only [zzE,In,jJ,jQ,Bool.not_eq_true',decide_eq_true_eq,decide_eq_false_iff_not,beq_iff_eq,and_assoc]
 omega
def zzH (s:ByteArray) (k:Nat):Bool:=!(decide (97≤znu s k) && decide (znu s k≤122)) && (decide ((k:Int)=0) || decide (znu s k < 48) || decide (57 < znu s k))
def zzI (s:ByteArray):Bool:=decide (∀ i,i < s.size→zzH s i=false) && In s.size 1 8
theorem zzJ (s:ByteArray) (h:Hp) (hs:zkA s):Ct jV 219 [.string s] h fun v h'=>v=.bool (zzI s)∧h'=h:=by
 have hmax:s.size≤9223372036854775807:=hs
 refine zdn (fun A W=>by simp) Tryz.func219 rfl rfl (by simp) fun W0=>?_
 refine Wk ?_
 refine zde (ι:=Nat) (fun k=>⟨[(0,true,.c (.v (.string s))),(3,true,.c (.v (.int .i64 k)))],[],h,0⟩) (fun k=>k≤s.size∧∀ i,i < k→zzH s i=false) (fun k=>s.size - k) 0 ⟨Nat.zero_le _,fun i hi=>absurd hi (Nat.not_lt_zero _)⟩ ?_ ?_
 ·refine Evs ?_
  exact Gk
 intro k hk
 refine Wk ?_
 refine zc9 rfl (fun hd=>?_) (fun hd=>?_)
 ·have hlt:=zjH hd
  repeat' first|refine Wa ?_|(simp only [go_sem,jq,jj,jy,jv,jk,jx,hlt,jW];try rfl)|refine Wb ?_|fail
  refine zc9 rfl (fun hq=>?_) (fun hq=>?_)
  ·refine Wk ?_
   have:zzI s=false:=by
    rw [zzI,decide_eq_false (fun e=>?_),Bool.false_and]
    have:=e k hlt
    rw [show zzH s k=true from hq] at this
    cases this
   rw [this]
  ·refine Wk ?_
   refine ⟨k+1,⟨hlt,fun i hi=>?_⟩,by omega,zjB (zjA hlt (by omega))⟩
   rcases Nat.lt_succ_iff_lt_or_eq.1 hi with hi|rfl
   ·exact hk.2 i hi
   ·exact hq
 ·have hge:=zjI hd
  repeat' first|refine Wa ?_|refine zhF (fun _=>zzk _ _ _ _) ?_|(simp only [go_sem,jq,jj,jy,jv,jk,jx];try rfl)|refine Wb ?_|fail
  have:decide (∀ i,i < s.size→zzH s i=false)=true:=decide_eq_true (fun i hi=>hk.2 i (by omega))
  rw [zzI,this,Bool.true_and,In]
theorem zzK (s:ByteArray) (h:Hp) (hs:zkA s):Ct jV 194 [.string s] h fun v h'=>v=.bool (zzI s)∧h'=h:=by
 have hmax:s.size≤9223372036854775807:=hs
 refine zdn (fun A W=>by simp) Tryz.func194 rfl rfl (by simp) fun W0=>?_
 repeat' first|refine Wa ?_|refine zhF (fun _=>zzl _ _ _ _) ?_|(simp only [go_sem,jq,jj,jy,jv,jk,jx];try rfl)|refine Wb ?_|fail
 refine zc9 rfl (fun hc=>?_) (fun hc=>?_)
 ·refine Wk ?_
  rw [Bool.not_eq_true'] at hc
  rw [zzI,In,hc,Bool.and_false]
 rw [Bool.not_eq_false'] at hc
 refine Wk ?_
 refine zde (ι:=Nat) (fun k=>⟨[(0,true,.c (.v (.string s))),(3,true,.c (.v (.int .i64 k)))],[],h,0⟩) (fun k=>k≤s.size∧∀ i,i < k→zzH s i=false) (fun k=>s.size - k) 0 ⟨Nat.zero_le _,fun i hi=>absurd hi (Nat.not_lt_zero _)⟩ ?_ ?_
 ·refine Evs ?_
  exact Gk
 intro k hk
 refine Wk ?_
 refine zc9 rfl (fun hd=>?_) (fun hd=>?_)
 ·have hlt:=zjH hd
  repeat' first|refine Wa ?_|(simp only [go_sem,jq,jj,jy,jv,jk,jx,hlt,jW];try rfl)|refine Wb ?_|fail
  refine zc9 rfl (fun hq=>?_) (fun hq=>?_)
  ·refine Wk ?_
   have:zzI s=false:=by
    rw [zzI,decide_eq_false (fun e=>?_),Bool.false_and]
    have:=e k hlt
    rw [show zzH s k=true from hq] at this
    cases this
   rw [this]
  ·refine Wk ?_
   refine ⟨k+1,⟨hlt,fun i hi=>?_⟩,by omega,zjB (zjA hlt (by omega))⟩
   rcases Nat.lt_succ_iff_lt_or_eq.1 hi with hi|rfl
   ·exact hk.2 i hi
   ·exact hq
 ·have hge:=zjI hd
  refine Wk ?_
  have:decide (∀ i,i < s.size→zzH s i=false)=true:=decide_eq_true (fun i hi=>hk.2 i (by omega))
  rw [zzI,this,Bool.true_and,In,hc]
def zzL {α:Type} (p:α→Bool) (l:List α):Int:=match l.findIdx? p with|some i=>i|none=>-1
theorem zzM {α:Type} {p:α→Bool} {l:List α} {k:Nat} (hk:k < l.length) (h:p l[k]=true) (hp:∀ i (hi:i < l.length),i < k→p l[i]=false):zzL p l=k:=by
 have:l.findIdx? p=some k:=by
  rw [List.findIdx?_eq_some_iff_getElem]
  exact ⟨hk,h,fun j hj=>by rw [hp j (by omega) hj];exact Bool.false_ne_true⟩
 rw [zzL,this]
theorem zzN {α:Type} {p:α→Bool} {l:List α} (hp:∀ i (hi:i < l.length),p l[i]=false):zzL p l=-1:=by
 have:l.findIdx? p=none:=by
  rw [List.findIdx?_eq_none_iff]
  intro x hx
  obtain ⟨i,hi,rfl⟩:=List.getElem_of_mem hx
  exact hp i hi
 rw [zzL,this]
def zzO (t:PTide):Bool:=In t.mean (-1000) 1000 && decide (t.parts.length≤4) && t.parts.all zzB
theorem zzP (s:Sl DPart):Con.con s=s.l:=List.map_id _
theorem zzQ {α:Type} {p:α→Bool} {l:List α} {k:Nat} (hk:k < l.length) (h:p l[k]=false):l.all p=false:=List.all_eq_false.2 ⟨l[k],List.getElem_mem hk,by rw [h];exact Bool.false_ne_true⟩
theorem zzR {α:Type} {p:α→Bool} {l:List α} {k:Nat} (hk:k < l.length) (hp:(l.take k).all p=true) (h:p l[k]=true):(l.take (k+1)).all p=true:=by
 rw [List.take_succ_eq_append_getElem hk,List.all_append,hp];simp [h]
theorem zzS (t:DTide) (h:Hp) (ht:Enc.ok h t):Ct jV 217 [t.v] h fun v h'=>v=.bool (zzO (Con.con t))∧h'=h:=by
 have hp:=ht.2
 have hl:=hp.max
 rw [zzO,show (Con.con t).mean=t.mean from rfl,show (Con.con t).parts=t.parts.l from zzP _]
 refine zdn (fun A W=>by simp) Tryz.func217 rfl rfl (by simp) fun W0=>?_
 repeat' first|refine Wa ?_|refine zhF (fun _=>zzk _ _ _ _) ?_|(simp only [go_sem,jq,jj,jy,jv,jk,jx];try rfl)|refine Wb ?_|fail
 refine zc9 rfl (fun hc=>?_) (fun hc=>?_)
 ·refine Wk ?_
  congr 1
  rw [jQ] at hc
  rcases hc with hc|hc
  ·rw [Bool.not_eq_true'] at hc
   rw [In,hc];rfl
  ·rw [decide_eq_false (by have:=of_decide_eq_true hc;omega),Bool.and_false,Bool.false_and]
 obtain ⟨hc1,hc2⟩:=Bool.or_eq_false_iff.1 hc
 rw [Bool.not_eq_false'] at hc1
 have hc2:=of_decide_eq_false hc2
 refine Wk ?_
 refine zde (ι:=Nat) (fun k=>⟨[(16,true,.c (.v t.parts.val)),(17,true,.c (.v (.int .i64 t.parts.l.length))),(18,true,.c (.v (.int .i64 k)))],[],h,0⟩) (fun k=>k≤t.parts.l.length∧(t.parts.l.take k).all zzB=true) (fun k=>t.parts.l.length - k) 0 ⟨Nat.zero_le _,rfl⟩ ?_ ?_
 ·refine Evs ?_
  exact Gk
 intro k hk
 refine Wk ?_
 refine zc9 rfl (fun hd=>?_) (fun hd=>?_)
 ·have hlt:=zjH hd
  repeat' first|refine Wa ?_|refine zhF (fun _=>zzC _ _ (hp.el hlt)) ?_|(simp only [go_sem,jq,jj,jy,jv,jk,jx,zk4 hp hlt,hp.some hlt,hlt,jW];try rfl)|refine Wb ?_|fail
  refine zc9 rfl (fun hq=>?_) (fun hq=>?_)
  ·rw [Bool.not_eq_true'] at hq
   refine Wk ?_
   rw [zzQ hlt hq,Bool.and_false]
  ·rw [Bool.not_eq_false'] at hq
   refine Wk ?_
   exact ⟨k+1,⟨hlt,zzR hlt hk.2 hq⟩,by omega,zjB (zjA hlt (by omega))⟩
 ·have hge:=zjI hd
  refine Wk ?_
  have:=hk.2
  rw [List.take_of_length_le hge] at this
  rw [this,In,hc1,decide_eq_true (show t.parts.l.length≤4 by omega)];rfl
theorem zzT (t:DTide) (h:Hp) (ht:Enc.ok h t):Ct jV 192 [t.v] h fun v h'=>v=.bool (zzO (Con.con t))∧h'=h:=by
 have hp:=ht.2
 have hl:=hp.max
 rw [zzO,show (Con.con t).mean=t.mean from rfl,show (Con.con t).parts=t.parts.l from zzP _]
 refine zdn (fun A W=>by simp) Tryz.func192 rfl rfl (by simp) fun W0=>?_
 repeat' first|refine Wa ?_|refine zhF (fun _=>zzl _ _ _ _) ?_|(simp only [go_sem,jq,jj,jy,jv,jk,jx];try rfl)|refine Wb ?_|fail
 refine zc9 rfl (fun hc=>?_) (fun hc=>?_)
 ·refine Wk ?_
  congr 1
  rw [jQ] at hc
  rcases hc with hc|hc
  ·rw [Bool.not_eq_true'] at hc
   rw [In,hc];rfl
  ·rw [decide_eq_false (by have:=of_decide_eq_true hc;omega),Bool.and_false,Bool.false_and]
 obtain ⟨hc1,hc2⟩:=Bool.or_eq_false_iff.1 hc
 rw [Bool.not_eq_false'] at hc1
 have hc2:=of_decide_eq_false hc2
 refine Wk ?_
 refine zde (ι:=Nat) (fun k=>⟨[(16,true,.c (.v t.parts.val)),(17,true,.c (.v (.int .i64 t.parts.l.length))),(18,true,.c (.v (.int .i64 k)))],[],h,0⟩) (fun k=>k≤t.parts.l.length∧(t.parts.l.take k).all zzB=true) (fun k=>t.parts.l.length - k) 0 ⟨Nat.zero_le _,rfl⟩ ?_ ?_
 ·refine Evs ?_
  exact Gk
 intro k hk
 refine Wk ?_
 refine zc9 rfl (fun hd=>?_) (fun hd=>?_)
 ·have hlt:=zjH hd
  repeat' first|refine Wa ?_|refine zhF (fun _=>zzD _ _ (hp.el hlt)) ?_|(simp only [go_sem,jq,jj,jy,jv,jk,jx,zk4 hp hlt,hp.some hlt,hlt,jW];try rfl)|refine Wb ?_|fail
  refine zc9 rfl (fun hq=>?_) (fun hq=>?_)
  ·rw [Bool.not_eq_true'] at hq
   refine Wk ?_
   rw [zzQ hlt hq,Bool.and_false]
  ·rw [Bool.not_eq_false'] at hq
   refine Wk ?_
   exact ⟨k+1,⟨hlt,zzR hlt hk.2 hq⟩,by omega,zjB (zjA hlt (by omega))⟩
 ·have hge:=zjI hd
  refine Wk ?_
  have:=hk.2
  rw [List.take_of_length_le hge] at this
  rw [this,In,hc1,decide_eq_true (show t.parts.l.length≤4 by omega)];rfl
def dS:DSurge:=⟨0,0,0⟩
def zzU (l:List DSurge) (i:Nat):Bool:=zzE (l.getD i dS) && !(decide (0 < (i:Int)) && decide ((l.getD i dS).src≤(l.getD (i - 1) dS).src))
def zzV (f:PForecast):Bool:=zzO f.tide && In (f.surges.length:Int) 1 6 && decide ((f.surges.getD 0 dS).src=0) && decide (∀ i,i < f.surges.length→zzU f.surges i=true)
theorem zzW (s:Sl DSurge):Con.con s=s.l:=List.map_id _
theorem sget {l:List DSurge} {i:Nat} (hi:i < l.length):l.getD i dS=l[i]:=by simp [List.getD_eq_getElem?_getD,hi]
theorem zzX (f:DForecast) (h:Hp) (hf:Enc.ok h f):Ct jV 173 [f.v] h fun v h'=>v=.bool (zzV (Con.con f))∧h'=h:=by
 have hp:=hf.2
 have hl:=hp.max
 rw [zzV,show (Con.con f).tide=Con.con f.tide from rfl,show (Con.con f).surges=f.surges.l from zzW _]
 refine zdn (fun A W=>by simp) Tryz.func173 rfl rfl (by simp) fun W0=>?_
 by_cases h0:0 < f.surges.l.length
 ·have hs0:=hp.some h0
  have hf0:(0 < (f.surges.l.length:Int))=True:=eq_true (by omega)
  have hs1:=(zmR hp h0).1
  simp only [go_sem,Nat.zero_mul] at hs1
  repeat' first|refine Wa ?_|refine zhF (fun _=>zzS _ _ hf.1) ?_|refine zhF (fun _=>zzk _ _ _ _) ?_|(simp only [go_sem,jq,jj,jy,jv,jk,jx,hf0,hs0,hs1,Int.toNat_zero,Nat.zero_mul,Int.le_refl,implies_true,true_and,and_true];try rfl)|refine Wb ?_|fail
  refine zc9 rfl (fun hc=>?_) (fun hc=>?_)
  ·refine Wk ?_
   congr 1
   simp only [jQ,Bool.not_eq_true'] at hc
   rcases hc with (hc|hc)|hc
   ·rw [hc];rfl
   ·rw [In,hc,Bool.and_false];rfl
   ·rw [sget h0,decide_eq_false (by simpa using hc),Bool.and_false,Bool.false_and]
  simp only [jp,Bool.not_eq_false'] at hc
  obtain ⟨⟨hc1,hc2⟩,hc3⟩:=hc
  have hc3:=zjE hc3
  have hpre:(zzO (Con.con f.tide) && In (f.surges.l.length:Int) 1 6 && decide ((f.surges.l.getD 0 dS).src=0))=true:=by rw [hc1,In,hc2,sget h0,decide_eq_true hc3];rfl
  rw [hpre,Bool.true_and]
  refine Wk ?_
  refine zde (ι:=Nat) (fun k=>⟨[(1,true,.c (.p 0 0)),(25,true,.c (.v f.surges.val)),(26,true,.c (.v (.int .i64 f.surges.l.length))),(27,true,.c (.v (.int .i64 k)))],[(0,.box 49 [.v (.int .i64 f.tide.mean),.v f.tide.parts.val,.v f.surges.val])],h,1⟩) (fun k=>k≤f.surges.l.length∧∀ i,i < k→zzU f.surges.l i=true) (fun k=>f.surges.l.length - k) 0 ⟨Nat.zero_le _,fun i hi=>absurd hi (Nat.not_lt_zero _)⟩ ?_ ?_
  ·refine Evs ?_
   exact Gk
  intro k hk
  refine Wk ?_
  refine zc9 rfl (fun hd=>?_) (fun hd=>?_)
  ·have hlt:=zjH hd
   have fin:∀ b:Bool,b=zzU f.surges.l k→(b=false→decide (∀ i,i < f.surges.l.length→zzU f.surges.l i=true)=false)∧(b=true→∀ i,i < k+1→zzU f.surges.l i=true):=by
    rintro b rfl
    refine ⟨fun e=>decide_eq_false fun hh=>(by rw [hh k hlt] at e;cases e),fun e i hi=>?_⟩
    rcases Nat.lt_succ_iff_lt_or_eq.1 hi with hi|rfl
    ·exact hk.2 i hi
    ·exact e
   have hsg:=sget hlt
   rcases Nat.eq_zero_or_pos k with hz|hz
   ·have hfk:(0 < (k:Int))=False:=eq_false (by omega)
    repeat' first|refine Wa ?_|(simp only [go_sem,jq,jj,jy,jv,jk,jx,zk9 hp hlt,hp.some hlt,hlt,jW];try rfl)|refine Wb ?_|fail
    refine ziV rfl ?_
    refine zi3 [0] rfl (by kernel_rfl) ?_
    refine Evs ?_
    refine ziT [1] (by kernel_rfl) (by kernel_rfl) ?_
    refine Evs ?_
    refine zhF (fun _=>zzF _ _) ?_
    refine Evs ?_
    refine zi3 [2,3,4,5,6,7,8,9,10,11,12,13,14,15,16,17,18] rfl (by kernel_rfl) ?_
    simp only [go_sem,jq,jj,jy,jv,jk,jx,hfk,decide_false,Bool.and_false,Bool.false_and,Bool.or_false,Bool.false_eq_true,false_implies,implies_true,true_and,reduceCtorEq]
    refine ziU (by kernel_rfl) ?_
    refine Wk ?_
    refine zc9 rfl (fun hq=>?_) (fun hq=>?_)
    ·refine Wk ?_
     rw [(fin (zzE f.surges.l[k]) (by rw [zzU,hsg];simp only [hfk,decide_false,Bool.false_and,Bool.not_false,Bool.and_true])).1 (by simpa using hq)]
    ·refine Wk ?_
     exact ⟨k+1,⟨hlt,(fin (zzE f.surges.l[k]) (by rw [zzU,hsg];simp only [hfk,decide_false,Bool.false_and,Bool.not_false,Bool.and_true])).2 (by simpa using hq)⟩,by omega,zjB (zjA hlt (by omega))⟩
   ·have hfk:(0 < (k:Int))=True:=eq_true (by omega)
    have hk1:k - 1 < f.surges.l.length:=by omega
    have hw:IntKind.i64.wrap ((k:Int) - 1)=((k - 1:Nat):Int):=by rw [zjz (by omega)];omega
    repeat' first|refine Wa ?_|(simp only [go_sem,jq,jj,jy,jv,jk,jx,zk9 hp hlt,hp.some hlt,hlt,jW];try rfl)|refine Wb ?_|fail
    refine ziV rfl ?_
    refine zi3 [0] rfl (by kernel_rfl) ?_
    refine Evs ?_
    refine ziT [1] (by kernel_rfl) (by kernel_rfl) ?_
    refine Evs ?_
    refine zhF (fun _=>zzF _ _) ?_
    refine Evs ?_
    refine zi3 [2,3,4,5,6,7,8,9,10,11,12,13,14,15,16,17,18] rfl (by kernel_rfl) ?_
    simp only [go_sem,jq,jj,jy,jv,jk,jx,hfk,hw,zmR hp hk1,hp.some hk1,hk1,jW,decide_true,and_true,imp_self,implies_true,true_and,Bool.true_and,Bool.and_true]
    refine ziU (by kernel_rfl) ?_
    refine Wk ?_
    refine zc9 rfl (fun hq=>?_) (fun hq=>?_)
    ·refine Wk ?_
     rw [(fin _ rfl).1 ?_]
     rw [zzU,sget hlt,sget hk1]
     rcases (jQ _ _).mp hq with h1|h1
     ·rw [Bool.not_eq_true'] at h1
      rw [h1];rfl
     ·rw [decide_eq_true (show 0 < (k:Int) by omega),decide_eq_true (of_decide_eq_true h1),Bool.and_self,Bool.not_true,Bool.and_false]
    ·refine Wk ?_
     refine ⟨k+1,⟨hlt,(fin _ rfl).2 ?_⟩,by omega,zjB (zjA hlt (by omega))⟩
     rw [zzU,sget hlt,sget hk1]
     obtain ⟨h1,h2⟩:=Bool.or_eq_false_iff.1 hq
     rw [Bool.not_eq_false'] at h1
     rw [h1,decide_eq_false (of_decide_eq_false h2),Bool.and_false];rfl
  ·have hge:=zjI hd
   refine Wk ?_
   exact zjG (fun i hi=>hk.2 i (by omega))
 ·have h1f:(1≤(f.surges.l.length:Int))=False:=eq_false (by omega)
  repeat' first|refine Wa ?_|refine zhF (fun _=>zzS _ _ hf.1) ?_|refine zhF (fun _=>zzk _ _ _ _) ?_|(simp only [go_sem,jq,jj,jy,jv,jk,jx,h1f,decide_false,Bool.false_and,Bool.not_false,Bool.or_true,reduceCtorEq,false_implies,true_and];try rfl)|refine Wb ?_|fail
  refine zc9 rfl (fun hc=>?_) (fun hc=>?_)
  ·refine Wk ?_
   congr 1
   simp only [In,h1f,decide_false,Bool.false_and,Bool.and_false]
  ·simp at hc
theorem zzY (f:DForecast) (h:Hp) (hf:Enc.ok h f):Ct jV 145 [f.v] h fun v h'=>v=.bool (zzV (Con.con f))∧h'=h:=by
 have hp:=hf.2
 have hl:=hp.max
 rw [zzV,show (Con.con f).tide=Con.con f.tide from rfl,show (Con.con f).surges=f.surges.l from zzW _]
 refine zdn (fun A W=>by simp) Tryz.func145 rfl rfl (by simp) fun W0=>?_
 by_cases h0:0 < f.surges.l.length
 ·have hs0:=hp.some h0
  have hf0:(0 < (f.surges.l.length:Int))=True:=eq_true (by omega)
  have hs1:=(zmR hp h0).1
  simp only [go_sem,Nat.zero_mul] at hs1
  repeat' first|refine Wa ?_|refine zhF (fun _=>zzT _ _ hf.1) ?_|refine zhF (fun _=>zzl _ _ _ _) ?_|(simp only [go_sem,jq,jj,jy,jv,jk,jx,hf0,hs0,hs1,Int.toNat_zero,Nat.zero_mul,Int.le_refl,implies_true,true_and,and_true];try rfl)|refine Wb ?_|fail
  refine zc9 rfl (fun hc=>?_) (fun hc=>?_)
  ·refine Wk ?_
   congr 1
   simp only [jQ,Bool.not_eq_true'] at hc
   rcases hc with (hc|hc)|hc
   ·rw [hc];rfl
   ·rw [In,hc,Bool.and_false];rfl
   ·rw [sget h0,decide_eq_false (by simpa using hc),Bool.and_false,Bool.false_and]
  simp only [jp,Bool.not_eq_false'] at hc
  obtain ⟨⟨hc1,hc2⟩,hc3⟩:=hc
  have hc3:=zjE hc3
  have hpre:(zzO (Con.con f.tide) && In (f.surges.l.length:Int) 1 6 && decide ((f.surges.l.getD 0 dS).src=0))=true:=by rw [hc1,In,hc2,sget h0,decide_eq_true hc3];rfl
  rw [hpre,Bool.true_and]
  refine Wk ?_
  refine zde (ι:=Nat) (fun k=>⟨[(1,true,.c (.p 0 0)),(25,true,.c (.v f.surges.val)),(26,true,.c (.v (.int .i64 f.surges.l.length))),(27,true,.c (.v (.int .i64 k)))],[(0,.box 49 [.v (.int .i64 f.tide.mean),.v f.tide.parts.val,.v f.surges.val])],h,1⟩) (fun k=>k≤f.surges.l.length∧∀ i,i < k→zzU f.surges.l i=true) (fun k=>f.surges.l.length - k) 0 ⟨Nat.zero_le _,fun i hi=>absurd hi (Nat.not_lt_zero _)⟩ ?_ ?_
  ·refine Evs ?_
   exact Gk
  intro k hk
  refine Wk ?_
  refine zc9 rfl (fun hd=>?_) (fun hd=>?_)
  ·have hlt:=zjH hd
   have fin:∀ b:Bool,b=zzU f.surges.l k→(b=false→decide (∀ i,i < f.surges.l.length→zzU f.surges.l i=true)=false)∧(b=true→∀ i,i < k+1→zzU f.surges.l i=true):=by
    rintro b rfl
    refine ⟨fun e=>decide_eq_false fun hh=>(by rw [hh k hlt] at e;cases e),fun e i hi=>?_⟩
    rcases Nat.lt_succ_iff_lt_or_eq.1 hi with hi|rfl
    ·exact hk.2 i hi
    ·exact e
   have hsg:=sget hlt
   rcases Nat.eq_zero_or_pos k with hz|hz
   ·have hfk:(0 < (k:Int))=False:=eq_false (by omega)
    repeat' first|refine Wa ?_|(simp only [go_sem,jq,jj,jy,jv,jk,jx,zk9 hp hlt,hp.some hlt,hlt,jW];try rfl)|refine Wb ?_|fail
    refine ziV rfl ?_
    refine zi3 [0] rfl (by kernel_rfl) ?_
    refine Evs ?_
    refine ziT [1] (by kernel_rfl) (by kernel_rfl) ?_
    refine Evs ?_
    refine zhF (fun _=>zzG _ _) ?_
    refine Evs ?_
    refine zi3 [2,3,4,5,6,7,8,9,10,11,12,13,14,15,16,17,18] rfl (by kernel_rfl) ?_
    simp only [go_sem,jq,jj,jy,jv,jk,jx,hfk,decide_false,Bool.and_false,Bool.false_and,Bool.or_false,Bool.false_eq_true,false_implies,implies_true,true_and,reduceCtorEq]
    refine ziU (by kernel_rfl) ?_
    refine Wk ?_
    refine zc9 rfl (fun hq=>?_) (fun hq=>?_)
    ·refine Wk ?_
     rw [(fin (zzE f.surges.l[k]) (by rw [zzU,hsg];simp only [hfk,decide_false,Bool.false_and,Bool.not_false,Bool.and_true])).1 (by simpa using hq)]
    ·refine Wk ?_
     exact ⟨k+1,⟨hlt,(fin (zzE f.surges.l[k]) (by rw [zzU,hsg];simp only [hfk,decide_false,Bool.false_and,Bool.not_false,Bool.and_true])).2 (by simpa using hq)⟩,by omega,zjB (zjA hlt (by omega))⟩
   ·have hfk:(0 < (k:Int))=True:=eq_true (by omega)
    have hk1:k - 1 < f.surges.l.length:=by omega
    have hw:IntKind.i64.wrap ((k:Int) - 1)=((k - 1:Nat):Int):=by rw [zjz (by omega)];omega
    repeat' first|refine Wa ?_|(simp only [go_sem,jq,jj,jy,jv,jk,jx,zk9 hp hlt,hp.some hlt,hlt,jW];try rfl)|refine Wb ?_|fail
    refine ziV rfl ?_
    refine zi3 [0] rfl (by kernel_rfl) ?_
    refine Evs ?_
    refine ziT [1] (by kernel_rfl) (by kernel_rfl) ?_
    refine Evs ?_
    refine zhF (fun _=>zzG _ _) ?_
    refine Evs ?_
    refine zi3 [2,3,4,5,6,7,8,9,10,11,12,13,14,15,16,17,18] rfl (by kernel_rfl) ?_
    simp only [go_sem,jq,jj,jy,jv,jk,jx,hfk,hw,zmR hp hk1,hp.some hk1,hk1,jW,decide_true,and_true,imp_self,implies_true,true_and,Bool.true_and,Bool.and_true]
    refine ziU (by kernel_rfl) ?_
    refine Wk ?_
    refine zc9 rfl (fun hq=>?_) (fun hq=>?_)
    ·refine Wk ?_
     rw [(fin _ rfl).1 ?_]
     rw [zzU,sget hlt,sget hk1]
     rcases (jQ _ _).mp hq with h1|h1
     ·rw [Bool.not_eq_true'] at h1
      rw [h1];rfl
     ·rw [decide_eq_true (show 0 < (k:Int) by omega),decide_eq_true (of_decide_eq_true h1),Bool.and_self,Bool.not_true,Bool.and_false]
    ·refine Wk ?_
     refine ⟨k+1,⟨hlt,(fin _ rfl).2 ?_⟩,by omega,zjB (zjA hlt (by omega))⟩
     rw [zzU,sget hlt,sget hk1]
     obtain ⟨h1,h2⟩:=Bool.or_eq_false_iff.1 hq
     rw [Bool.not_eq_false'] at h1
     rw [h1,decide_eq_false (of_decide_eq_false h2),Bool.and_false];rfl
  ·have hge:=zjI hd
   refine Wk ?_
   exact zjG (fun i hi=>hk.2 i (by omega))
 ·have h1f:(1≤(f.surges.l.length:Int))=False:=eq_false (by omega)
  repeat' first|refine Wa ?_|refine zhF (fun _=>zzT _ _ hf.1) ?_|refine zhF (fun _=>zzl _ _ _ _) ?_|(simp only [go_sem,jq,jj,jy,jv,jk,jx,h1f,decide_false,Bool.false_and,Bool.not_false,Bool.or_true,reduceCtorEq,false_implies,true_and];try rfl)|refine Wb ?_|fail
  refine zc9 rfl (fun hc=>?_) (fun hc=>?_)
  ·refine Wk ?_
   congr 1
   simp only [In,h1f,decide_false,Bool.false_and,Bool.and_false]
  ·simp at hc
def dP:DPoint:=⟨ByteArray.empty,false⟩
def dG:DSegment:=⟨0,0,0,0,false⟩
theorem pget {l:List DPoint} {i:Nat} (hi:i < l.length):l.getD i dP=l[i]:=by simp [List.getD_eq_getElem?_getD,hi]
theorem gget {l:List DSegment} {i:Nat} (hi:i < l.length):l.getD i dG=l[i]:=by simp [List.getD_eq_getElem?_getD,hi]
def zzZ (l:List DPoint) (n:ByteArray):Int:=zzL (fun p=>decide (p.name=n)) l
theorem zz0 (s:Sl DPoint):Con.con s=s.l:=List.map_id _
theorem zz1 (s:Sl DSegment):Con.con s=s.l:=List.map_id _
theorem zz2 (s:Sl DShip):Con.con s=s.l:=List.map_id _
def zz3 (s:DSegment) (a b:Int):Bool:=decide (s.a=a) && decide (s.b=b) || decide (s.a=b) && decide (s.b=a)
theorem zz4 (s:DSegment) (a b:Int) (h:Hp):Ct jV 221 [s.v,.int .i64 a,.int .i64 b] h fun v h'=>v=.bool (zz3 s a b)∧h'=h:=by
 refine zdn (fun A W=>by simp) Tryz.func221 rfl rfl (by simp) fun W0=>?_
 exact Wk0
theorem zz5 (s:DSegment) (a b:Int) (h:Hp):Ct jV 196 [s.v,.int .i64 a,.int .i64 b] h fun v h'=>v=.bool (zz3 s a b)∧h'=h:=by
 refine zdn (fun A W=>by simp) Tryz.func196 rfl rfl (by simp) fun W0=>?_
 exact Wk0
def ptOk (l:List DPoint) (i:Nat):Bool:=zzI (l.getD i dP).name && decide (zzZ l (l.getD i dP).name=(i:Int))
def zz6 (n:Nat) (s:DSegment):Bool:=decide (0≤s.a∧s.a < n∧0≤s.b∧s.b < n∧s.a ≠ s.b∧0≤s.depth∧s.depth≤3000∧1≤s.minutes∧s.minutes≤240)
def zz7 (l:List DSegment) (i:Nat):Bool:=decide (∀ j,j < i→zz3 (l.getD j dG) (l.getD i dG).a (l.getD i dG).b=false)
def zz8 (n:Nat) (l:List DSegment) (i:Nat):Bool:=zz6 n (l.getD i dG) && zz7 l i
def zz9 (c:PChart):Bool:=decide (c.points.length≤8) && decide (c.segments.length≤10) && decide (∀ i,i < c.points.length→ptOk c.points i=true) && decide (∀ i,i < c.segments.length→zz8 c.points.length c.segments i=true)
theorem zAa (c:DChart):zz9 (Con.con c)=(decide (c.points.l.length≤8) && decide (c.segments.l.length≤10) && decide (∀ i,i < c.points.l.length→ptOk c.points.l i=true) && decide (∀ i,i < c.segments.l.length→zz8 c.points.l.length c.segments.l i=true)):=by
 rw [zz9,show (Con.con c).points=c.points.l from zz0 _,show (Con.con c).segments=c.segments.l from zz1 _]
theorem zAb {p:Nat→Bool} {n k:Nat} (hk:k < n) (h:p k=false):decide (∀ i,i < n→p i=true)=false:=decide_eq_false fun hh=>by rw [hh k hk] at h;cases h
theorem zAc {p:Nat→Bool} {k:Nat} (hp:∀ i,i < k→p i=true) (h:p k=true):∀ i,i < k+1→p i=true:=fun i hi=>by
 rcases Nat.lt_succ_iff_lt_or_eq.1 hi with hi|rfl
 ·exact hp i hi
 ·exact h
theorem zAd {p:Nat→Bool} {n k:Nat} (hk:n≤k) (hp:∀ i,i < k→p i=true):decide (∀ i,i < n→p i=true)=true:=decide_eq_true fun i hi=>hp i (by omega)
theorem zAe {p:Nat→Bool}:∀ i,i < 0→p i=true:=fun i hi=>absurd hi (Nat.not_lt_zero _)
theorem zAf (c:DChart) (n:ByteArray) (h:Hp) (hc:Enc.ok h c):Ct jV 220 [c.v,.string n] h fun v h'=>v=.int .i64 (zzZ c.points.l n)∧h'=h:=by
 have hp:=hc.1
 have hl:=hp.max
 refine zdn (fun A W=>by simp) Tryz.func220 rfl rfl (by simp) fun W0=>?_
 refine Wk ?_
 refine zde (ι:=Nat) (fun k=>⟨[(1,true,.c (.v (.string n))),(8,true,.c (.v c.points.val)),(9,true,.c (.v (.int .i64 c.points.l.length))),(10,true,.c (.v (.int .i64 k)))],[],h,1⟩) (fun k=>k≤c.points.l.length∧∀ i (hi:i < c.points.l.length),i < k→(decide (c.points.l[i].name=n))=false) (fun k=>c.points.l.length - k) 0 ⟨Nat.zero_le _,fun i _ hi=>absurd hi (Nat.not_lt_zero _)⟩ ?_ ?_
 ·refine Evs ?_
  exact Gk
 intro k hk
 refine Wk ?_
 refine zc9 rfl (fun hd=>?_) (fun hd=>?_)
 ·have hlt:=zjH hd
  repeat' first|refine Wa ?_|(simp (maxSteps:=2000000) only [go_sem,jq,jj,jy,jv,jk,jx,zlf hp hlt,hp.some hlt,hlt,jW];try rfl)|refine Wb ?_|fail
  refine zc9 rfl (fun hq=>?_) (fun hq=>?_)
  ·refine Wk ?_
   rw [zzZ,zzM hlt hq hk.2]
  ·refine Wk ?_
   refine ⟨k+1,⟨hlt,fun i hi hik=>?_⟩,by omega,zjB (zjA hlt (by omega))⟩
   rcases Nat.lt_succ_iff_lt_or_eq.1 hik with hik|rfl
   ·exact hk.2 i hi hik
   ·exact hq
 ·have hge:=zjI hd
  refine Wk ?_
  rw [zzZ,zzN (fun i hi=>hk.2 i hi (by omega))]
theorem zAg (c:DChart) (n:ByteArray) (h:Hp) (hc:Enc.ok h c):Ct jV 195 [c.v,.string n] h fun v h'=>v=.int .i64 (zzZ c.points.l n)∧h'=h:=by
 have hp:=hc.1
 have hl:=hp.max
 refine zdn (fun A W=>by simp) Tryz.func195 rfl rfl (by simp) fun W0=>?_
 refine Wk ?_
 refine zde (ι:=Nat) (fun k=>⟨[(1,true,.c (.v (.string n))),(8,true,.c (.v c.points.val)),(9,true,.c (.v (.int .i64 c.points.l.length))),(10,true,.c (.v (.int .i64 k)))],[],h,1⟩) (fun k=>k≤c.points.l.length∧∀ i (hi:i < c.points.l.length),i < k→(decide (c.points.l[i].name=n))=false) (fun k=>c.points.l.length - k) 0 ⟨Nat.zero_le _,fun i _ hi=>absurd hi (Nat.not_lt_zero _)⟩ ?_ ?_
 ·refine Evs ?_
  exact Gk
 intro k hk
 refine Wk ?_
 refine zc9 rfl (fun hd=>?_) (fun hd=>?_)
 ·have hlt:=zjH hd
  repeat' first|refine Wa ?_|(simp (maxSteps:=2000000) only [go_sem,jq,jj,jy,jv,jk,jx,zlf hp hlt,hp.some hlt,hlt,jW];try rfl)|refine Wb ?_|fail
  refine zc9 rfl (fun hq=>?_) (fun hq=>?_)
  ·refine Wk ?_
   rw [zzZ,zzM hlt hq hk.2]
  ·refine Wk ?_
   refine ⟨k+1,⟨hlt,fun i hi hik=>?_⟩,by omega,zjB (zjA hlt (by omega))⟩
   rcases Nat.lt_succ_iff_lt_or_eq.1 hik with hik|rfl
   ·exact hk.2 i hi hik
   ·exact hq
 ·have hge:=zjI hd
  refine Wk ?_
  rw [zzZ,zzN (fun i hi=>hk.2 i hi (by omega))]
theorem zAh (c:DChart) (h:Hp) (hc:Enc.ok h c):Ct jV 174 [c.v] h fun v h'=>v=.bool (zz9 (Con.con c))∧h'=h:=by
 have hp:=hc.1
 have hg:=hc.2
 have hl:=hp.max
 have hl2:=hg.max
 have hw:IntKind.i64.wrap ((c.points.l.length:Int) - 1)=(c.points.l.length:Int) - 1:=zjz (by omega)
 rw [zAa]
 refine zdn (fun A W=>by simp) Tryz.func174 rfl rfl (by simp) fun W0=>?_
 refine Wk ?_
 refine zc9 rfl (fun hc1=>?_) (fun hc1=>?_)
 ·refine Wk ?_
  congr 1
  rcases (jQ _ _).mp hc1 with h1|h1
  ·rw [decide_eq_false (by have:=of_decide_eq_true h1;omega)];rfl
  ·rw [decide_eq_false (p:=c.segments.l.length≤10) (by have:=of_decide_eq_true h1;omega),Bool.and_false];rfl
 obtain ⟨hc2,hc3⟩:=Bool.or_eq_false_iff.1 hc1
 have hc2:=of_decide_eq_false hc2
 have hc3:=of_decide_eq_false hc3
 rw [decide_eq_true (show c.points.l.length≤8 by omega),decide_eq_true (show c.segments.l.length≤10 by omega),Bool.and_self,Bool.true_and]
 refine Wk ?_
 refine zde (ι:=Nat) (fun k=>⟨[(1,true,.c (.p 0 0)),(20,true,.c (.v c.points.val)),(21,true,.c (.v (.int .i64 c.points.l.length))),(22,true,.c (.v (.int .i64 k)))],[(0,.box 53 [.v c.points.val,.v c.segments.val])],h,1⟩) (fun k=>k≤c.points.l.length∧∀ i,i < k→ptOk c.points.l i=true) (fun k=>c.points.l.length - k) 0 ⟨Nat.zero_le _,zAe⟩ ?_ ?_
 ·refine Evs ?_
  exact Gk
 ·intro k hk
  refine Wk ?_
  refine zc9 rfl (fun hd=>?_) (fun hd=>?_)
  ·have hlt:=zjH hd
   repeat' first|refine Wa ?_|refine zhF (fun _=>zzJ _ _ (hp.el hlt)) ?_|refine zhF (fun _=>zAf c _ _ hc) ?_|(simp (maxSteps:=2000000) only [go_sem,jq,jj,jy,jv,jk,jx,zlf hp hlt,hp.some hlt,hlt,jW];try rfl)|refine Wb ?_|fail
   refine zc9 rfl (fun hq=>?_) (fun hq=>?_)
   ·refine Wk ?_
    rw [zAb hlt ?_];rfl
    rw [ptOk,pget hlt]
    rcases (jQ _ _).mp hq with h1|h1
    ·rw [Bool.not_eq_true'] at h1;rw [h1];rfl
    ·rw [decide_eq_false (zjD h1),Bool.and_false]
   ·obtain ⟨h1,h2⟩:=Bool.or_eq_false_iff.1 hq
    rw [Bool.not_eq_false'] at h1
    refine Wk ?_
    exact ⟨k+1,⟨hlt,zAc hk.2 (by rw [ptOk,pget hlt,h1,decide_eq_true (zjE h2)];rfl)⟩,by omega,zjB (zjA hlt (by omega))⟩
  ·have hge:=zjI hd
   rw [zAd hge hk.2,Bool.true_and]
   refine Wk ?_
   refine zde (ι:=Nat) (fun k=>⟨[(1,true,.c (.p 0 0)),(41,true,.c (.v c.segments.val)),(42,true,.c (.v (.int .i64 c.segments.l.length))),(43,true,.c (.v (.int .i64 k)))],[(0,.box 53 [.v c.points.val,.v c.segments.val])],h,1⟩) (fun k=>k≤c.segments.l.length∧∀ i,i < k→zz8 c.points.l.length c.segments.l i=true) (fun k=>c.segments.l.length - k) 0 ⟨Nat.zero_le _,zAe⟩ ?_ ?_
   ·refine Evs ?_
    exact Gk
   intro k hk
   refine Wk ?_
   refine zc9 rfl (fun hd=>?_) (fun hd=>?_)
   ·have hlt:=zjH hd
    repeat' first|refine Wa ?_|refine zhF (fun _=>zzk _ _ _ _) ?_|refine zhF (fun _=>zzk _ _ _ _) ?_|(simp (maxSteps:=2000000) only [go_sem,jq,jj,jy,jv,jk,jx,zlh hg hlt,hg.some hlt,hlt,jW,hw];try rfl)|refine Wb ?_|fail
    refine zc9 rfl (fun hq=>?_) (fun hq=>?_)
    ·refine Wk ?_
     rw [zAb hlt ?_]
     rw [zz8,gget hlt,zz6,decide_eq_false ?_,Bool.false_and]
     simp only [jQ,Bool.not_eq_true',Bool.and_eq_false_iff,decide_eq_false_iff_not,beq_iff_eq] at hq
     omega
    ·have hin:zz6 c.points.l.length c.segments.l[k]=true:=by
      simp only [jp,Bool.not_eq_false',jJ,decide_eq_true_eq,beq_eq_false_iff_ne] at hq
      rw [zz6]
      refine decide_eq_true ?_
      omega
     have hgo:=Sl.to_ok hg k
     have hlt0:=Sl.to_len hk.1
     have hcap:=hg.1
     refine Wk ?_
     refine ⟨by omega,?_⟩
     simp only [Int.toNat_zero,Nat.sub_zero,Nat.zero_mul,zx1,zx2,ite_self]
     rw [zx3 hk.1]
     refine Wk ?_
     refine zde (ι:=Nat) (fun j=>⟨[(1,true,.c (.p 0 0)),(6,true,.c (.p 1 0)),(41,true,.c (.v c.segments.val)),(42,true,.c (.v (.int .i64 c.segments.l.length))),(43,true,.c (.v (.int .i64 k))),(88,true,.c (.v (c.segments.to k).val)),(89,true,.c (.v (.int .i64 k))),(90,true,.c (.v (.int .i64 j)))],[(0,.box 53 [.v c.points.val,.v c.segments.val]),(1,.box 231 [.v (.int .i64 c.segments.l[k].a),.v (.int .i64 c.segments.l[k].b),.v (.int .i64 c.segments.l[k].depth),.v (.int .i64 c.segments.l[k].minutes),.v (.bool c.segments.l[k].meet)])],h,2⟩) (fun j=>j≤k∧∀ i,i < j→zz3 (c.segments.l.getD i dG) c.segments.l[k].a c.segments.l[k].b=false) (fun j=>k - j) 0 ⟨Nat.zero_le _,fun i hi=>absurd hi (Nat.not_lt_zero _)⟩ ?_ ?_
     ·refine Evs ?_
      exact Gk
     intro j hj
     refine Wk ?_
     refine zc9 rfl (fun hq2=>?_) (fun hq2=>?_)
     ·have hltj:=zjH hq2
      have hltj':j < (c.segments.to k).l.length:=by omega
      have hltj2:j < c.segments.l.length:=by omega
      have hje:=Sl.to_get hltj' hltj2
      repeat' first|refine Wa ?_|refine zhF (fun _=>zz4 _ _ _ _) ?_|(simp (maxSteps:=2000000) only [go_sem,jq,jj,jy,jv,jk,jx,zlh hgo hltj',hgo.some hltj',hltj',hltj,jW,hje];try rfl)|refine Wb ?_|fail
      refine zc9 rfl (fun hq3=>?_) (fun hq3=>?_)
      ·refine Wk ?_
       rw [zAb hlt ?_]
       rw [zz8,gget hlt,hin,Bool.true_and,zz7]
       refine decide_eq_false fun hh=>?_
       have:=hh j hltj
       rw [gget hltj2,gget hlt,hq3] at this
       cases this
      ·refine Wk ?_
       exact ⟨j+1,⟨hltj,fun i hi=>by
        rcases Nat.lt_succ_iff_lt_or_eq.1 hi with hi|rfl
        ·exact hj.2 i hi
        ·rw [gget hltj2];exact hq3⟩,by omega,zjB (zjA hltj (by omega))⟩
     ·have hgej:=zjI hq2
      refine Wk ?_
      refine ⟨k+1,⟨hlt,zAc hk.2 ?_⟩,by omega,zjB (zjA hlt (by omega))⟩
      rw [zz8,gget hlt,hin,Bool.true_and,zz7]
      refine decide_eq_true fun i hi=>?_
      rw [gget hlt];exact hj.2 i (by omega)
   ·have hge:=zjI hd
    refine Wk ?_
    rw [zAd hge hk.2]
theorem zAi (c:DChart) (h:Hp) (hc:Enc.ok h c):Ct jV 146 [c.v] h fun v h'=>v=.bool (zz9 (Con.con c))∧h'=h:=by
 have hp:=hc.1
 have hg:=hc.2
 have hl:=hp.max
 have hl2:=hg.max
 have hw:IntKind.i64.wrap ((c.points.l.length:Int) - 1)=(c.points.l.length:Int) - 1:=zjz (by omega)
 rw [zAa]
 refine zdn (fun A W=>by simp) Tryz.func146 rfl rfl (by simp) fun W0=>?_
 refine Wk ?_
 refine zc9 rfl (fun hc1=>?_) (fun hc1=>?_)
 ·refine Wk ?_
  congr 1
  rcases (jQ _ _).mp hc1 with h1|h1
  ·rw [decide_eq_false (by have:=of_decide_eq_true h1;omega)];rfl
  ·rw [decide_eq_false (p:=c.segments.l.length≤10) (by have:=of_decide_eq_true h1;omega),Bool.and_false];rfl
 obtain ⟨hc2,hc3⟩:=Bool.or_eq_false_iff.1 hc1
 have hc2:=of_decide_eq_false hc2
 have hc3:=of_decide_eq_false hc3
 rw [decide_eq_true (show c.points.l.length≤8 by omega),decide_eq_true (show c.segments.l.length≤10 by omega),Bool.and_self,Bool.true_and]
 refine Wk ?_
 refine zde (ι:=Nat) (fun k=>⟨[(1,true,.c (.p 0 0)),(20,true,.c (.v c.points.val)),(21,true,.c (.v (.int .i64 c.points.l.length))),(22,true,.c (.v (.int .i64 k)))],[(0,.box 53 [.v c.points.val,.v c.segments.val])],h,1⟩) (fun k=>k≤c.points.l.length∧∀ i,i < k→ptOk c.points.l i=true) (fun k=>c.points.l.length - k) 0 ⟨Nat.zero_le _,zAe⟩ ?_ ?_
 ·refine Evs ?_
  exact Gk
 ·intro k hk
  refine Wk ?_
  refine zc9 rfl (fun hd=>?_) (fun hd=>?_)
  ·have hlt:=zjH hd
   repeat' first|refine Wa ?_|refine zhF (fun _=>zzK _ _ (hp.el hlt)) ?_|refine zhF (fun _=>zAg c _ _ hc) ?_|(simp (maxSteps:=2000000) only [go_sem,jq,jj,jy,jv,jk,jx,zlf hp hlt,hp.some hlt,hlt,jW];try rfl)|refine Wb ?_|fail
   refine zc9 rfl (fun hq=>?_) (fun hq=>?_)
   ·refine Wk ?_
    rw [zAb hlt ?_];rfl
    rw [ptOk,pget hlt]
    rcases (jQ _ _).mp hq with h1|h1
    ·rw [Bool.not_eq_true'] at h1;rw [h1];rfl
    ·rw [decide_eq_false (zjD h1),Bool.and_false]
   ·obtain ⟨h1,h2⟩:=Bool.or_eq_false_iff.1 hq
    rw [Bool.not_eq_false'] at h1
    refine Wk ?_
    exact ⟨k+1,⟨hlt,zAc hk.2 (by rw [ptOk,pget hlt,h1,decide_eq_true (zjE h2)];rfl)⟩,by omega,zjB (zjA hlt (by omega))⟩
  ·have hge:=zjI hd
   rw [zAd hge hk.2,Bool.true_and]
   refine Wk ?_
   refine zde (ι:=Nat) (fun k=>⟨[(1,true,.c (.p 0 0)),(41,true,.c (.v c.segments.val)),(42,true,.c (.v (.int .i64 c.segments.l.length))),(43,true,.c (.v (.int .i64 k)))],[(0,.box 53 [.v c.points.val,.v c.segments.val])],h,1⟩) (fun k=>k≤c.segments.l.length∧∀ i,i < k→zz8 c.points.l.length c.segments.l i=true) (fun k=>c.segments.l.length - k) 0 ⟨Nat.zero_le _,zAe⟩ ?_ ?_
   ·refine Evs ?_
    exact Gk
   intro k hk
   refine Wk ?_
   refine zc9 rfl (fun hd=>?_) (fun hd=>?_)
   ·have hlt:=zjH hd
    repeat' first|refine Wa ?_|refine zhF (fun _=>zzn _ _ _) ?_|refine zhF (fun _=>zzl _ _ _ _) ?_|(simp (maxSteps:=2000000) only [go_sem,jq,jj,jy,jv,jk,jx,zlh hg hlt,hg.some hlt,hlt,jW];try rfl)|refine Wb ?_|fail
    refine zc9 rfl (fun hq=>?_) (fun hq=>?_)
    ·refine Wk ?_
     rw [zAb hlt ?_]
     rw [zz8,gget hlt,zz6,decide_eq_false ?_,Bool.false_and]
     simp only [jQ,Bool.not_eq_true',Bool.and_eq_false_iff,decide_eq_false_iff_not,beq_iff_eq] at hq
     omega
    ·have hin:zz6 c.points.l.length c.segments.l[k]=true:=by
      simp only [jp,Bool.not_eq_false',jJ,decide_eq_true_eq,beq_eq_false_iff_ne] at hq
      rw [zz6]
      refine decide_eq_true ?_
      omega
     have hgo:=Sl.to_ok hg k
     have hlt0:=Sl.to_len hk.1
     have hcap:=hg.1
     refine Wk ?_
     refine ⟨by omega,?_⟩
     simp only [Int.toNat_zero,Nat.sub_zero,Nat.zero_mul,zx1,zx2,ite_self]
     rw [zx3 hk.1]
     refine Wk ?_
     refine zde (ι:=Nat) (fun j=>⟨[(1,true,.c (.p 0 0)),(6,true,.c (.p 1 0)),(41,true,.c (.v c.segments.val)),(42,true,.c (.v (.int .i64 c.segments.l.length))),(43,true,.c (.v (.int .i64 k))),(86,true,.c (.v (c.segments.to k).val)),(87,true,.c (.v (.int .i64 k))),(88,true,.c (.v (.int .i64 j)))],[(0,.box 53 [.v c.points.val,.v c.segments.val]),(1,.box 231 [.v (.int .i64 c.segments.l[k].a),.v (.int .i64 c.segments.l[k].b),.v (.int .i64 c.segments.l[k].depth),.v (.int .i64 c.segments.l[k].minutes),.v (.bool c.segments.l[k].meet)])],h,2⟩) (fun j=>j≤k∧∀ i,i < j→zz3 (c.segments.l.getD i dG) c.segments.l[k].a c.segments.l[k].b=false) (fun j=>k - j) 0 ⟨Nat.zero_le _,fun i hi=>absurd hi (Nat.not_lt_zero _)⟩ ?_ ?_
     ·refine Evs ?_
      exact Gk
     intro j hj
     refine Wk ?_
     refine zc9 rfl (fun hq2=>?_) (fun hq2=>?_)
     ·have hltj:=zjH hq2
      have hltj':j < (c.segments.to k).l.length:=by omega
      have hltj2:j < c.segments.l.length:=by omega
      have hje:=Sl.to_get hltj' hltj2
      repeat' first|refine Wa ?_|refine zhF (fun _=>zz5 _ _ _ _) ?_|(simp (maxSteps:=2000000) only [go_sem,jq,jj,jy,jv,jk,jx,zlh hgo hltj',hgo.some hltj',hltj',hltj,jW,hje];try rfl)|refine Wb ?_|fail
      refine zc9 rfl (fun hq3=>?_) (fun hq3=>?_)
      ·refine Wk ?_
       rw [zAb hlt ?_]
       rw [zz8,gget hlt,hin,Bool.true_and,zz7]
       refine decide_eq_false fun hh=>?_
       have:=hh j hltj
       rw [gget hltj2,gget hlt,hq3] at this
       cases this
      ·refine Wk ?_
       exact ⟨j+1,⟨hltj,fun i hi=>by
        rcases Nat.lt_succ_iff_lt_or_eq.1 hi with hi|rfl
        ·exact hj.2 i hi
        ·rw [gget hltj2];exact hq3⟩,by omega,zjB (zjA hltj (by omega))⟩
     ·have hgej:=zjI hq2
      refine Wk ?_
      refine ⟨k+1,⟨hlt,zAc hk.2 ?_⟩,by omega,zjB (zjA hlt (by omega))⟩
      rw [zz8,gget hlt,hin,Bool.true_and,zz7]
      refine decide_eq_true fun i hi=>?_
      rw [gget hlt];exact hj.2 i (by omega)
   ·have hge:=zjI hd
    refine Wk ?_
    rw [zAd hge hk.2]
def dH:DShip:=⟨ByteArray.empty,0,0,0,0,false⟩
theorem hget {l:List DShip} {i:Nat} (hi:i < l.length):l.getD i dH=l[i]:=by simp [List.getD_eq_getElem?_getD,hi]
def zAj (l:List DShip) (n:ByteArray):Int:=zzL (fun p=>decide (p.name=n)) l
def zAk (s:DShip):Bool:=zzI s.name && In s.length 10 400 && In s.draught 100 2000 && In s.line 0 3 && In s.tugs 0 4
def shOk (l:List DShip) (i:Nat):Bool:=zAk (l.getD i dH) && decide (zAj l (l.getD i dH).name=(i:Int))
def zAl (l:List DShip):Bool:=decide (l.length≤6) && decide (∀ i,i < l.length→shOk l i=true)
def zAm (r:DRegime):Bool:=In r.gap 0 60
def zAn (l:List Int):Bool:=decide (l.length=64) && l.all (fun n=>In n 0 240)
def zAo (w:PCrew):Bool:=In w.tugs 0 12 && In w.pilots 0 12 && (In w.rest 0 2880 && zAn w.moves)
def zAp (x:PHarbour):Bool:=zzV x.forecast && zz9 x.chart && zAl x.fleet && zAm x.regime && zAo x.crew
theorem zAq (c:Sl DShip) (n:ByteArray) (h:Hp) (hp:c.Ok h):Ct jV 223 [c.val,.string n] h fun v h'=>v=.int .i64 (zAj c.l n)∧h'=h:=by
 have hl:=hp.max
 refine zdn (fun A W=>by simp) Tryz.func223 rfl rfl (by simp) fun W0=>?_
 refine Wk ?_
 refine zde (ι:=Nat) (fun k=>⟨[(1,true,.c (.v (.string n))),(7,true,.c (.v c.val)),(8,true,.c (.v (.int .i64 c.l.length))),(9,true,.c (.v (.int .i64 k)))],[],h,1⟩) (fun k=>k≤c.l.length∧∀ i (hi:i < c.l.length),i < k→(decide (c.l[i].name=n))=false) (fun k=>c.l.length - k) 0 ⟨Nat.zero_le _,fun i _ hi=>absurd hi (Nat.not_lt_zero _)⟩ ?_ ?_
 ·refine Evs ?_
  exact Gk
 intro k hk
 refine Wk ?_
 refine zc9 rfl (fun hd=>?_) (fun hd=>?_)
 ·have hlt:=zjH hd
  repeat' first|refine Wa ?_|(simp only [go_sem,jq,jj,jy,jv,jk,jx,zln hp hlt,hp.some hlt,hlt,jW];try rfl)|refine Wb ?_|fail
  refine zc9 rfl (fun hq=>?_) (fun hq=>?_)
  ·refine Wk ?_
   rw [zAj,zzM hlt hq hk.2]
  ·refine Wk ?_
   refine ⟨k+1,⟨hlt,fun i hi hik=>?_⟩,by omega,zjB (zjA hlt (by omega))⟩
   rcases Nat.lt_succ_iff_lt_or_eq.1 hik with hik|rfl
   ·exact hk.2 i hi hik
   ·exact hq
 ·have hge:=zjI hd
  refine Wk ?_
  rw [zAj,zzN (fun i hi=>hk.2 i hi (by omega))]
theorem zAr (s:DShip) (h:Hp) (hs:Enc.ok h s):Ct jV 222 [s.v] h fun v h'=>v=.bool (zAk s)∧h'=h:=by
 refine zdn (fun A W=>by simp) Tryz.func222 rfl rfl (by simp) fun W0=>?_
 repeat' first|refine Wa ?_|refine zhF (fun _=>zzJ _ _ hs.1) ?_|refine zhF (fun _=>zzk _ _ _ _) ?_|(simp only [go_sem,jq,jj,jy,jv,jk,jx];try rfl)|refine Wb ?_|fail
 skip
 skip
theorem zAs (c:Sl DShip) (h:Hp) (hp:c.Ok h):Ct jV 175 [c.val] h fun v h'=>v=.bool (zAl c.l)∧h'=h:=by
 have hl:=hp.max
 rw [zAl]
 refine zdn (fun A W=>by simp) Tryz.func175 rfl rfl (by simp) fun W0=>?_
 refine Wk ?_
 refine zc9 rfl (fun hc=>?_) (fun hc=>?_)
 ·refine Wk ?_
  rw [decide_eq_false (by have:=of_decide_eq_true hc;omega)];rfl
 rw [decide_eq_true (show c.l.length≤6 by have:=of_decide_eq_false hc;omega),Bool.true_and]
 refine Wk ?_
 refine zde (ι:=Nat) (fun k=>⟨[(0,true,.c (.v c.val)),(8,true,.c (.v c.val)),(9,true,.c (.v (.int .i64 c.l.length))),(10,true,.c (.v (.int .i64 k)))],[],h,0⟩) (fun k=>k≤c.l.length∧∀ i,i < k→shOk c.l i=true) (fun k=>c.l.length - k) 0 ⟨Nat.zero_le _,zAe⟩ ?_ ?_
 ·refine Evs ?_
  exact Gk
 intro k hk
 refine Wk ?_
 refine zc9 rfl (fun hd=>?_) (fun hd=>?_)
 ·have hlt:=zjH hd
  repeat' first|refine Wa ?_|refine zhF (fun _=>zAr _ _ (hp.el hlt)) ?_|refine zhF (fun _=>zAq c _ _ hp) ?_|(simp only [go_sem,jq,jj,jy,jv,jk,jx,zln hp hlt,hp.some hlt,hlt,jW];try rfl)|refine Wb ?_|fail
  refine zc9 rfl (fun hq=>?_) (fun hq=>?_)
  ·refine Wk ?_
   rw [zAb hlt ?_]
   rw [shOk,hget hlt]
   rcases (jQ _ _).mp hq with h1|h1
   ·rw [Bool.not_eq_true'] at h1;rw [h1];rfl
   ·rw [decide_eq_false (zjD h1),Bool.and_false]
  ·obtain ⟨h1,h2⟩:=Bool.or_eq_false_iff.1 hq
   rw [Bool.not_eq_false'] at h1
   refine Wk ?_
   exact ⟨k+1,⟨hlt,zAc hk.2 (by rw [shOk,hget hlt,h1,decide_eq_true (zjE h2)];rfl)⟩,by omega,zjB (zjA hlt (by omega))⟩
 ·have hge:=zjI hd
  refine Wk ?_
  rw [zAd hge hk.2]
theorem zAt (s:DRegime) (h:Hp):Ct jV 176 [s.v] h fun v h'=>v=.bool (zAm s)∧h'=h:=by
 refine zdn (fun A W=>by simp) Tryz.func176 rfl rfl (by simp) fun W0=>?_
 repeat' first|refine Wa ?_|refine zhF (fun _=>zzk _ _ _ _) ?_|(simp only [go_sem,jq,jj,jy,jv,jk,jx];try rfl)|refine Wb ?_|fail
theorem zAu (c:Sl DShip) (n:ByteArray) (h:Hp) (hp:c.Ok h):Ct jV 198 [c.val,.string n] h fun v h'=>v=.int .i64 (zAj c.l n)∧h'=h:=by
 have hl:=hp.max
 refine zdn (fun A W=>by simp) Tryz.func198 rfl rfl (by simp) fun W0=>?_
 refine Wk ?_
 refine zde (ι:=Nat) (fun k=>⟨[(1,true,.c (.v (.string n))),(7,true,.c (.v c.val)),(8,true,.c (.v (.int .i64 c.l.length))),(9,true,.c (.v (.int .i64 k)))],[],h,1⟩) (fun k=>k≤c.l.length∧∀ i (hi:i < c.l.length),i < k→(decide (c.l[i].name=n))=false) (fun k=>c.l.length - k) 0 ⟨Nat.zero_le _,fun i _ hi=>absurd hi (Nat.not_lt_zero _)⟩ ?_ ?_
 ·refine Evs ?_
  exact Gk
 intro k hk
 refine Wk ?_
 refine zc9 rfl (fun hd=>?_) (fun hd=>?_)
 ·have hlt:=zjH hd
  repeat' first|refine Wa ?_|(simp only [go_sem,jq,jj,jy,jv,jk,jx,zln hp hlt,hp.some hlt,hlt,jW];try rfl)|refine Wb ?_|fail
  refine zc9 rfl (fun hq=>?_) (fun hq=>?_)
  ·refine Wk ?_
   rw [zAj,zzM hlt hq hk.2]
  ·refine Wk ?_
   refine ⟨k+1,⟨hlt,fun i hi hik=>?_⟩,by omega,zjB (zjA hlt (by omega))⟩
   rcases Nat.lt_succ_iff_lt_or_eq.1 hik with hik|rfl
   ·exact hk.2 i hi hik
   ·exact hq
 ·have hge:=zjI hd
  refine Wk ?_
  rw [zAj,zzN (fun i hi=>hk.2 i hi (by omega))]
theorem zAv (s:DShip) (h:Hp) (hs:Enc.ok h s):Ct jV 197 [s.v] h fun v h'=>v=.bool (zAk s)∧h'=h:=by
 refine zdn (fun A W=>by simp) Tryz.func197 rfl rfl (by simp) fun W0=>?_
 repeat' first|refine Wa ?_|refine zhF (fun _=>zzK _ _ hs.1) ?_|refine zhF (fun _=>zzl _ _ _ _) ?_|refine zhF (fun _=>zzn _ _ _) ?_|(simp only [go_sem,jq,jj,jy,jv,jk,jx];try rfl)|refine Wb ?_|fail
 congr 1;rw [Bool.eq_iff_iff];simp only [zAk,In,jJ,jQ,Bool.not_eq_true',decide_eq_true_eq,decide_eq_false_iff_not,beq_iff_eq,and_assoc]
 constructor <;> intro hh <;> (refine ⟨hh.1,?_⟩;omega)
theorem zAw (c:Sl DShip) (h:Hp) (hp:c.Ok h):Ct jV 147 [c.val] h fun v h'=>v=.bool (zAl c.l)∧h'=h:=by
 have hl:=hp.max
 rw [zAl]
 refine zdn (fun A W=>by simp) Tryz.func147 rfl rfl (by simp) fun W0=>?_
 refine Wk ?_
 refine zc9 rfl (fun hc=>?_) (fun hc=>?_)
 ·refine Wk ?_
  rw [decide_eq_false (by have:=of_decide_eq_true hc;omega)];rfl
 rw [decide_eq_true (show c.l.length≤6 by have:=of_decide_eq_false hc;omega),Bool.true_and]
 refine Wk ?_
 refine zde (ι:=Nat) (fun k=>⟨[(0,true,.c (.v c.val)),(8,true,.c (.v c.val)),(9,true,.c (.v (.int .i64 c.l.length))),(10,true,.c (.v (.int .i64 k)))],[],h,0⟩) (fun k=>k≤c.l.length∧∀ i,i < k→shOk c.l i=true) (fun k=>c.l.length - k) 0 ⟨Nat.zero_le _,zAe⟩ ?_ ?_
 ·refine Evs ?_
  exact Gk
 intro k hk
 refine Wk ?_
 refine zc9 rfl (fun hd=>?_) (fun hd=>?_)
 ·have hlt:=zjH hd
  repeat' first|refine Wa ?_|refine zhF (fun _=>zAv _ _ (hp.el hlt)) ?_|refine zhF (fun _=>zAu c _ _ hp) ?_|(simp only [go_sem,jq,jj,jy,jv,jk,jx,zln hp hlt,hp.some hlt,hlt,jW];try rfl)|refine Wb ?_|fail
  refine zc9 rfl (fun hq=>?_) (fun hq=>?_)
  ·refine Wk ?_
   rw [zAb hlt ?_]
   rw [shOk,hget hlt]
   rcases (jQ _ _).mp hq with h1|h1
   ·rw [Bool.not_eq_true'] at h1;rw [h1];rfl
   ·rw [decide_eq_false (zjD h1),Bool.and_false]
  ·obtain ⟨h1,h2⟩:=Bool.or_eq_false_iff.1 hq
   rw [Bool.not_eq_false'] at h1
   refine Wk ?_
   exact ⟨k+1,⟨hlt,zAc hk.2 (by rw [shOk,hget hlt,h1,decide_eq_true (zjE h2)];rfl)⟩,by omega,zjB (zjA hlt (by omega))⟩
 ·have hge:=zjI hd
  refine Wk ?_
  rw [zAd hge hk.2]
theorem zAx (s:DRegime) (h:Hp):Ct jV 148 [s.v] h fun v h'=>v=.bool (zAm s)∧h'=h:=by
 refine zdn (fun A W=>by simp) Tryz.func148 rfl rfl (by simp) fun W0=>?_
 repeat' first|refine Wa ?_|refine zhF (fun _=>zzl _ _ _ _) ?_|(simp only [go_sem,jq,jj,jy,jv,jk,jx];try rfl)|refine Wb ?_|fail
theorem zAy {l:List Int} {k:Nat} (hk:k < l.length) (h:In l[k] 0 240=false):zAn l=false:=by rw [zAn,zzQ (p:=fun n=>In n 0 240) hk h,Bool.and_false]
theorem zAz {l:List Int} {k:Nat} (h64:l.length=64) (hk:l.length≤k) (hp:(l.take k).all (fun n=>In n 0 240)=true):zAn l=true:=by
 rw [List.take_of_length_le hk] at hp
 rw [zAn,hp,decide_eq_true h64];rfl
theorem zAA (n:Int) (a:Sl Int) (h:Hp) (ha:a.Ok h):Ct jV 224 [.int .i64 n,a.val] h fun v h'=>v=.bool (In n 0 2880 && zAn a.l)∧h'=h:=by
 have hl:=ha.max
 refine zdn (fun A W=>by simp) Tryz.func224 rfl rfl (by simp) fun W0=>?_
 repeat' first|refine Wa ?_|refine zhF (fun _=>zzk _ _ _ _) ?_|(simp only [go_sem,jq,jj,jy,jv,jk,jx];try rfl)|refine Wb ?_|fail
 refine zc9 rfl (fun hc=>?_) (fun hc=>?_)
 ·refine Wk ?_
  congr 1
  rcases (jQ _ _).mp hc with h1|h1
  ·rw [Bool.not_eq_true'] at h1;rw [In,h1];rfl
  ·rw [zAn,decide_eq_false (by have:=zjD h1;omega),Bool.false_and,Bool.and_false]
 obtain ⟨h1,h2⟩:=Bool.or_eq_false_iff.1 hc
 rw [Bool.not_eq_false'] at h1
 have h64:a.l.length=64:=by have:=zjE h2;omega
 rw [In,h1,Bool.true_and]
 refine Wk ?_
 refine zde (ι:=Nat) (fun k=>⟨[(15,true,.c (.v a.val)),(16,true,.c (.v (.int .i64 a.l.length))),(17,true,.c (.v (.int .i64 k)))],[],h,0⟩) (fun k=>k≤a.l.length∧(a.l.take k).all (fun n=>In n 0 240)=true) (fun k=>a.l.length - k) 0 ⟨Nat.zero_le _,rfl⟩ ?_ ?_
 ·refine Evs ?_
  exact Gk
 intro k hk
 refine Wk ?_
 refine zc9 rfl (fun hd=>?_) (fun hd=>?_)
 ·have hlt:=zjH hd
  repeat' first|refine Wa ?_|refine zhF (fun _=>zzk _ _ _ _) ?_|(simp only [go_sem,jq,jj,jy,jv,jk,jx,zkR ha hlt,ha.some hlt,hlt,jW];try rfl)|refine Wb ?_|fail
  refine zc9 rfl (fun hq=>?_) (fun hq=>?_)
  ·rw [Bool.not_eq_true'] at hq
   refine Wk ?_
   rw [zAy hlt hq]
  ·rw [Bool.not_eq_false'] at hq
   refine Wk ?_
   exact ⟨k+1,⟨hlt,zzR hlt hk.2 hq⟩,by omega,zjB (zjA hlt (by omega))⟩
 ·have hge:=zjI hd
  refine Wk ?_
  rw [zAz h64 hge hk.2]
theorem zAB (a:Sl Int) (h:Hp) (ha:a.Ok h):Ct jV 199 [a.val] h fun v h'=>v=.bool (zAn a.l)∧h'=h:=by
 have hl:=ha.max
 refine zdn (fun A W=>by simp) Tryz.func199 rfl rfl (by simp) fun W0=>?_
 refine Wk ?_
 refine zc9 rfl (fun hc=>?_) (fun hc=>?_)
 ·refine Wk ?_
  rw [zAn,decide_eq_false (by have:=zjD hc;omega)];rfl
 have h64:a.l.length=64:=by have:=zjE hc;omega
 refine Wk ?_
 refine zde (ι:=Nat) (fun k=>⟨[(8,true,.c (.v a.val)),(9,true,.c (.v (.int .i64 a.l.length))),(10,true,.c (.v (.int .i64 k)))],[],h,0⟩) (fun k=>k≤a.l.length∧(a.l.take k).all (fun n=>In n 0 240)=true) (fun k=>a.l.length - k) 0 ⟨Nat.zero_le _,rfl⟩ ?_ ?_
 ·refine Evs ?_
  exact Gk
 intro k hk
 refine Wk ?_
 refine zc9 rfl (fun hd=>?_) (fun hd=>?_)
 ·have hlt:=zjH hd
  repeat' first|refine Wa ?_|refine zhF (fun _=>zzl _ _ _ _) ?_|(simp only [go_sem,jq,jj,jy,jv,jk,jx,zkR ha hlt,ha.some hlt,hlt,jW];try rfl)|refine Wb ?_|fail
  refine zc9 rfl (fun hq=>?_) (fun hq=>?_)
  ·rw [Bool.not_eq_true'] at hq
   refine Wk ?_
   rw [zAy hlt hq]
  ·rw [Bool.not_eq_false'] at hq
   refine Wk ?_
   exact ⟨k+1,⟨hlt,zzR hlt hk.2 hq⟩,by omega,zjB (zjA hlt (by omega))⟩
 ·have hge:=zjI hd
  refine Wk ?_
  rw [zAz h64 hge hk.2]
theorem zAC (w:DCrew):zAo (Con.con w)=(In w.tugs 0 12 && In w.pilots 0 12 && (In w.rest 0 2880 && zAn w.moves.l)):=by
 rw [zAo,show (Con.con w).moves=w.moves.l from con_ints];rfl
theorem zAD (w:DCrew) (h:Hp) (hw:Enc.ok h w):Ct jV 177 [w.v] h fun v h'=>v=.bool (zAo (Con.con w))∧h'=h:=by
 rw [zAC]
 refine zdn (fun A W=>by simp) Tryz.func177 rfl rfl (by simp) fun W0=>?_
 repeat' first|refine Wa ?_|refine zhF (fun _=>zzk _ _ _ _) ?_|refine zhF (fun _=>zAA _ _ _ hw.2.2.2) ?_|(simp only [go_sem,jq,jj,jy,jv,jk,jx];try rfl)|refine Wb ?_|fail
theorem zAE (w:DCrew) (h:Hp) (hw:Enc.ok h w):Ct jV 149 [w.v] h fun v h'=>v=.bool (zAo (Con.con w))∧h'=h:=by
 rw [zAC]
 refine zdn (fun A W=>by simp) Tryz.func149 rfl rfl (by simp) fun W0=>?_
 repeat' first|refine Wa ?_|refine zhF (fun _=>zzl _ _ _ _) ?_|refine zhF (fun _=>zzm _ _) ?_|refine zhF (fun _=>zAB _ _ hw.2.2.2) ?_|(simp only [go_sem,jq,jj,jy,jv,jk,jx];try rfl)|refine Wb ?_|fail
 congr 1;rw [Bool.eq_iff_iff];simp only [In,jJ,jQ,Bool.not_eq_true',decide_eq_true_eq,decide_eq_false_iff_not,beq_iff_eq,and_assoc]
theorem zAF (x:DHarbour):zAp (Con.con x)=(zzV (Con.con x.forecast) && zz9 (Con.con x.chart) && zAl x.fleet.l && zAm x.regime && zAo (Con.con x.crew)):=by
 rw [zAp,show (Con.con x).fleet=x.fleet.l from zz2 _];rfl
theorem zAG (x:DHarbour) (h:Hp) (hx:Enc.ok h x):Ct jV 127 [x.v] h fun v h'=>v=.bool (zAp (Con.con x))∧h'=h:=by
 obtain ⟨o1,o2,o3,o4,o5⟩:=hx
 rw [zAF]
 refine zdn (fun A W=>by simp) Tryz.func127 rfl rfl (by simp) fun W0=>?_
 repeat' first|refine Wa ?_|refine zhF (fun _=>zzX x.forecast _ o1) ?_|refine zhF (fun _=>zAh x.chart _ o2) ?_|refine zhF (fun _=>zAs _ _ o3) ?_|refine zhF (fun _=>zAt x.regime _) ?_|refine zhF (fun _=>zAD x.crew _ o5) ?_|(simp only [go_sem,jq,jj,jy,jv,jk,jx];try rfl)|refine Wb ?_|fail
theorem zAH (x:DHarbour) (h:Hp) (hx:Enc.ok h x):Ct jV 99 [x.v] h fun v h'=>v=.bool (zAp (Con.con x))∧h'=h:=by
 obtain ⟨o1,o2,o3,o4,o5⟩:=hx
 rw [zAF]
 refine zdn (fun A W=>by simp) Tryz.func99 rfl rfl (by simp) fun W0=>?_
 repeat' first|refine Wa ?_|refine zhF (fun _=>zzY x.forecast _ o1) ?_|refine zhF (fun _=>zAi x.chart _ o2) ?_|refine zhF (fun _=>zAw _ _ o3) ?_|refine zhF (fun _=>zAx x.regime _) ?_|refine zhF (fun _=>zAE x.crew _ o5) ?_|(simp only [go_sem,jq,jj,jy,jv,jk,jx];try rfl)|refine Wb ?_|fail
def zAI (x:PHarbour) (a:DCall):Bool:=decide (0≤a.ship∧a.ship < x.fleet.length∧0≤a.src∧a.src < x.chart.points.length∧0≤a.dst∧a.dst < x.chart.points.length∧a.src ≠ a.dst∧0≤a.ready∧a.ready≤2880∧a.ready≤a.due∧a.due≤2880)
def zAJ (x:PHarbour) (a:DCall):Bool:=zAp x && zAI x a
theorem zAK (x:DHarbour) (a:DCall):zAI (Con.con x) a=decide (0≤a.ship∧a.ship < x.fleet.l.length∧0≤a.src∧a.src < x.chart.points.l.length∧0≤a.dst∧a.dst < x.chart.points.l.length∧a.src ≠ a.dst∧0≤a.ready∧a.ready≤2880∧a.ready≤a.due∧a.due≤2880):=by
 rw [zAI,show (Con.con x).fleet=x.fleet.l from zz2 _,show (Con.con x).chart.points=x.chart.points.l from zz0 _]
theorem zAL (x:DHarbour) (a:DCall) (h:Hp) (hx:Enc.ok h x):Ct jV 100 [x.v,a.v] h fun v h'=>v=.bool (zAI (Con.con x) a)∧h'=h:=by
 rw [zAK]
 refine zdn (fun A W=>by simp) Tryz.func100 rfl rfl (by simp) fun W0=>?_
 repeat' first|refine Wa ?_|refine zhF (fun _=>zzn _ _ _) ?_|refine zhF (fun _=>zzm _ _) ?_|refine zhF (fun _=>zzl _ _ _ _) ?_|(simp (maxSteps:=2000000) only [go_sem,jq,jj,jy,jv,jk,jx];try rfl)|refine Wb ?_|fail
 congr 1
 rw [Bool.eq_iff_iff]
 simp only [jJ,decide_eq_true_eq,Bool.not_eq_true',beq_eq_false_iff_ne,bne_iff_ne,ne_eq,and_assoc]
 skip
theorem zAM (x:DHarbour) (a:DCall) (h:Hp) (hx:Enc.ok h x) (ha:Enc.ok h a):Ct jV 152 [x.v,a.v] h fun v h'=>v=.bool (zAJ (Con.con x) (Con.con a))∧h'=h:=by
 rw [zAJ,show (Con.con a:DCall)=a from rfl]
 refine zdn (fun A W=>by simp) Tryz.func152 rfl rfl (by simp) fun W0=>?_
 repeat' first|refine Wa ?_|refine zhF (fun _=>zAH x _ hx) ?_|refine zhF (fun _=>zAL x a _ hx) ?_|(simp (maxSteps:=2000000) only [go_sem,jq,jj,jy,jv,jk,jx];try rfl)|refine Wb ?_|fail
theorem zAN (x:DHarbour) (a:DCall) (h:Hp) (hx:Enc.ok h x) (ha:Enc.ok h a):Ct jV 128 [x.v,a.v] h fun v h'=>v=.bool (zAJ (Con.con x) (Con.con a))∧h'=h:=by
 have l1:=hx.2.1.1.max
 have l2:=hx.2.2.1.max
 have w1:IntKind.i64.wrap ((x.chart.points.l.length:Int) - 1)=(x.chart.points.l.length:Int) - 1:=zjz (by omega)
 have w2:IntKind.i64.wrap ((x.fleet.l.length:Int) - 1)=(x.fleet.l.length:Int) - 1:=zjz (by omega)
 rw [zAJ,show (Con.con a:DCall)=a from rfl,zAK]
 refine zdn (fun A W=>by simp) Tryz.func128 rfl rfl (by simp) fun W0=>?_
 repeat' first|refine Wa ?_|refine zhF (fun _=>zAG x _ hx) ?_|refine zhF (fun _=>zzk _ _ _ _) ?_|(simp (maxSteps:=2000000) only [go_sem,jq,jj,jy,jv,jk,jx,w1,w2];try rfl)|refine Wb ?_|fail
 congr 1
 rw [Bool.eq_iff_iff]
 simp only [jJ,decide_eq_true_eq,Bool.not_eq_true',beq_eq_false_iff_ne,bne_iff_ne,ne_eq,and_assoc]
 constructor <;> intro hh <;> refine ⟨hh.1,?_⟩ <;> omega
def dC:DCall:=⟨0,0,0,0,0⟩
theorem cget {l:List DCall} {i:Nat} (hi:i < l.length):l.getD i dC=l[i]:=by simp [List.getD_eq_getElem?_getD,hi]
def zAO (l:List DCall) (i:Nat):Bool:=decide (∀ j,j < i→(l.getD j dC).ship ≠ (l.getD i dC).ship)
def clOk (x:PHarbour) (l:List DCall) (i:Nat):Bool:=zAI x (l.getD i dC) && zAO l i
def zAP (x:PHarbour) (l:List DCall):Bool:=zAp x && decide (l.length≤6) && decide (∀ i,i < l.length→clOk x l i=true)
theorem zAQ (s:Sl DCall):Con.con s=s.l:=List.map_id _
theorem zAR (x:DHarbour) (a:Sl DCall) (h:Hp) (hx:Enc.ok h x) (ha:Enc.ok h a):Ct jV 74 [x.v,a.val] h fun v h'=>v=.bool (zAP (Con.con x) (Con.con a))∧h'=h:=by
 have ha:a.Ok h:=ha
 have hl:=ha.max
 rw [zAP,zAQ]
 refine zdn (fun A W=>by simp) Tryz.func74 rfl rfl (by simp) fun W0=>?_
 repeat' first|refine Wa ?_|refine zhF (fun _=>zAG x _ hx) ?_|(simp only [go_sem,jq,jj,jy,jv,jk,jx];try rfl)|refine Wb ?_|fail
 refine zc9 rfl (fun hc=>?_) (fun hc=>?_)
 ·refine Wk ?_
  congr 1
  rcases (jQ _ _).mp hc with h1|h1
  ·rw [Bool.not_eq_true'] at h1;rw [h1];rfl
  ·rw [decide_eq_false (p:=a.l.length≤6) (by have:=of_decide_eq_true h1;omega),Bool.and_false];rfl
 obtain ⟨hH,h6⟩:=Bool.or_eq_false_iff.1 hc
 rw [Bool.not_eq_false'] at hH
 rw [hH,decide_eq_true (show a.l.length≤6 by have:=of_decide_eq_false h6;omega),Bool.and_self,Bool.true_and]
 refine Wk ?_
 refine zde (ι:=Nat) (fun k=>⟨[(1,true,.c (.v a.val)),(2,true,.c (.p 0 0)),(17,true,.c (.v a.val)),(18,true,.c (.v (.int .i64 a.l.length))),(19,true,.c (.v (.int .i64 k)))],[(0,.box 58 [.v (.int .i64 x.forecast.tide.mean),.v x.forecast.tide.parts.val,.v x.forecast.surges.val,.v x.chart.points.val,.v x.chart.segments.val,.v x.fleet.val,.v (.int .i64 x.regime.gap),.v (.bool x.regime.noMeet),.v (.int .i64 x.crew.tugs),.v (.int .i64 x.crew.pilots),.v (.int .i64 x.crew.rest),.v x.crew.moves.val])],h,1⟩) (fun k=>k≤a.l.length∧∀ i,i < k→clOk (Con.con x) a.l i=true) (fun k=>a.l.length - k) 0 ⟨Nat.zero_le _,zAe ⟩ ?_ ?_
 ·refine Evs ?_
  exact Gk
 intro k hk
 refine Wk ?_
 refine zc9 rfl (fun hd=>?_) (fun hd=>?_)
 ·have hlt:=zjH hd
  have hge:=cget hlt
  repeat' first|refine Wa ?_|refine zhF (fun _=>zAN x _ _ hx (ha.el hlt)) ?_|(simp only [go_sem,jq,jj,jy,jv,jk,jx,zkT ha hlt,ha.some hlt,hlt,jW];try rfl)|refine Wb ?_|fail
  refine zc9 rfl (fun hq=>?_) (fun hq=>?_)
  ·rw [Bool.not_eq_true'] at hq
   rw [zAJ,show (Con.con a.l[k]:DCall)=a.l[k] from rfl,hH,Bool.true_and] at hq
   refine Wk ?_
   rw [zAb  hlt (by rw [clOk,hge,hq,Bool.false_and])]
  ·rw [Bool.not_eq_false'] at hq
   rw [zAJ,show (Con.con a.l[k]:DCall)=a.l[k] from rfl,hH,Bool.true_and] at hq
   have hgo:=Sl.to_ok ha k
   have hlt0:=Sl.to_len hk.1
   have hcap:=ha.1
   refine Wk ?_
   refine ⟨by omega,?_⟩
   simp only [Int.toNat_zero,Nat.sub_zero,Nat.zero_mul,zx1,zx2,ite_self]
   rw [zx3 hk.1]
   refine Wk ?_
   refine zde (ι:=Nat) (fun j=>⟨[(1,true,.c (.v a.val)),(2,true,.c (.p 0 0)),(6,true,.c (.p 1 0)),(17,true,.c (.v a.val)),(18,true,.c (.v (.int .i64 a.l.length))),(19,true,.c (.v (.int .i64 k))),(30,true,.c (.v (a.to k).val)),(31,true,.c (.v (.int .i64 k))),(32,true,.c (.v (.int .i64 j)))],[(0,.box 58 [.v (.int .i64 x.forecast.tide.mean),.v x.forecast.tide.parts.val,.v x.forecast.surges.val,.v x.chart.points.val,.v x.chart.segments.val,.v x.fleet.val,.v (.int .i64 x.regime.gap),.v (.bool x.regime.noMeet),.v (.int .i64 x.crew.tugs),.v (.int .i64 x.crew.pilots),.v (.int .i64 x.crew.rest),.v x.crew.moves.val]),(1,.box 90 [.v (.int .i64 a.l[k].ship),.v (.int .i64 a.l[k].src),.v (.int .i64 a.l[k].dst),.v (.int .i64 a.l[k].ready),.v (.int .i64 a.l[k].due)])],h,2⟩) (fun j=>j≤k∧∀ i,i < j→(a.l.getD i dC).ship ≠ a.l[k].ship) (fun j=>k - j) 0 ⟨Nat.zero_le _,fun i hi=>absurd hi (Nat.not_lt_zero _)⟩ ?_ ?_
   ·refine Evs ?_
    exact Gk
   intro j hj
   refine Wk ?_
   refine zc9 rfl (fun hq2=>?_) (fun hq2=>?_)
   ·have hltj:=zjH hq2
    have hltj':j < (a.to k).l.length:=by omega
    have hltj2:j < a.l.length:=by omega
    have hje:=Sl.to_get hltj' hltj2
    repeat' first|refine Wa ?_|(simp only [go_sem,jq,jj,jy,jv,jk,jx,zkT hgo hltj',hgo.some hltj',hltj',hltj,jW,hje];try rfl)|refine Wb ?_|fail
    refine zc9 rfl (fun hq3=>?_) (fun hq3=>?_)
    ·have hq3:=eq_of_beq hq3
     refine Wk ?_
     rw [zAb  hlt ?_]
     rw [clOk,hge,hq,Bool.true_and,zAO]
     refine decide_eq_false fun hh=>hh j hltj ?_
     rw [cget hltj2,hge];omega
    ·have hq3:=beq_eq_false_iff_ne.1 hq3
     refine Wk ?_
     refine ⟨j+1,⟨hltj,fun i hi=>?_⟩,by omega,zjB (zjA hltj (by omega))⟩
     rcases Nat.lt_succ_iff_lt_or_eq.1 hi with hi|rfl
     ·exact hj.2 i hi
     ·rw [cget hltj2];omega
   ·have hgej:=zjI hq2
    refine Wk ?_
    refine ⟨k+1,⟨hlt,zAc  hk.2 ?_⟩,by omega,zjB (zjA hlt (by omega))⟩
    rw [clOk,hge,hq,Bool.true_and,zAO]
    refine decide_eq_true fun i hi=>?_
    rw [hge];exact hj.2 i (by omega)
 ·have hge:=zjI hd
  refine Wk ?_
  rw [zAd  hge hk.2]
theorem zAS (x:DHarbour) (a:Sl DCall) (h:Hp) (hx:Enc.ok h x) (ha:Enc.ok h a):Ct jV 45 [x.v,a.val] h fun v h'=>v=.bool (zAP (Con.con x) (Con.con a))∧h'=h:=by
 have ha:a.Ok h:=ha
 have hl:=ha.max
 rw [zAP,zAQ]
 refine zdn (fun A W=>by simp) Tryz.func45 rfl rfl (by simp) fun W0=>?_
 repeat' first|refine Wa ?_|refine zhF (fun _=>zAH x _ hx) ?_|(simp only [go_sem,jq,jj,jy,jv,jk,jx];try rfl)|refine Wb ?_|fail
 refine zc9 rfl (fun hc=>?_) (fun hc=>?_)
 ·refine Wk ?_
  congr 1
  rcases (jQ _ _).mp hc with h1|h1
  ·rw [Bool.not_eq_true'] at h1;rw [h1];rfl
  ·rw [decide_eq_false (p:=a.l.length≤6) (by have:=of_decide_eq_true h1;omega),Bool.and_false];rfl
 obtain ⟨hH,h6⟩:=Bool.or_eq_false_iff.1 hc
 rw [Bool.not_eq_false'] at hH
 rw [hH,decide_eq_true (show a.l.length≤6 by have:=of_decide_eq_false h6;omega),Bool.and_self,Bool.true_and]
 refine Wk ?_
 refine zde (ι:=Nat) (fun k=>⟨[(1,true,.c (.v a.val)),(2,true,.c (.p 0 0)),(17,true,.c (.v a.val)),(18,true,.c (.v (.int .i64 a.l.length))),(19,true,.c (.v (.int .i64 k)))],[(0,.box 58 [.v (.int .i64 x.forecast.tide.mean),.v x.forecast.tide.parts.val,.v x.forecast.surges.val,.v x.chart.points.val,.v x.chart.segments.val,.v x.fleet.val,.v (.int .i64 x.regime.gap),.v (.bool x.regime.noMeet),.v (.int .i64 x.crew.tugs),.v (.int .i64 x.crew.pilots),.v (.int .i64 x.crew.rest),.v x.crew.moves.val])],h,1⟩) (fun k=>k≤a.l.length∧∀ i,i < k→clOk (Con.con x) a.l i=true) (fun k=>a.l.length - k) 0 ⟨Nat.zero_le _,zAe ⟩ ?_ ?_
 ·refine Evs ?_
  exact Gk
 intro k hk
 refine Wk ?_
 refine zc9 rfl (fun hd=>?_) (fun hd=>?_)
 ·have hlt:=zjH hd
  have hge:=cget hlt
  repeat' first|refine Wa ?_|refine zhF (fun _=>zAL x _ _ hx) ?_|(simp only [go_sem,jq,jj,jy,jv,jk,jx,zkT ha hlt,ha.some hlt,hlt,jW];try rfl)|refine Wb ?_|fail
  refine zc9 rfl (fun hq=>?_) (fun hq=>?_)
  ·rw [Bool.not_eq_true'] at hq
   skip
   refine Wk ?_
   rw [zAb  hlt (by rw [clOk,hge,hq,Bool.false_and])]
  ·rw [Bool.not_eq_false'] at hq
   skip
   have hgo:=Sl.to_ok ha k
   have hlt0:=Sl.to_len hk.1
   have hcap:=ha.1
   refine Wk ?_
   refine ⟨by omega,?_⟩
   simp only [Int.toNat_zero,Nat.sub_zero,Nat.zero_mul,zx1,zx2,ite_self]
   rw [zx3 hk.1]
   refine Wk ?_
   refine zde (ι:=Nat) (fun j=>⟨[(1,true,.c (.v a.val)),(2,true,.c (.p 0 0)),(6,true,.c (.p 1 0)),(17,true,.c (.v a.val)),(18,true,.c (.v (.int .i64 a.l.length))),(19,true,.c (.v (.int .i64 k))),(30,true,.c (.v (a.to k).val)),(31,true,.c (.v (.int .i64 k))),(32,true,.c (.v (.int .i64 j)))],[(0,.box 58 [.v (.int .i64 x.forecast.tide.mean),.v x.forecast.tide.parts.val,.v x.forecast.surges.val,.v x.chart.points.val,.v x.chart.segments.val,.v x.fleet.val,.v (.int .i64 x.regime.gap),.v (.bool x.regime.noMeet),.v (.int .i64 x.crew.tugs),.v (.int .i64 x.crew.pilots),.v (.int .i64 x.crew.rest),.v x.crew.moves.val]),(1,.box 90 [.v (.int .i64 a.l[k].ship),.v (.int .i64 a.l[k].src),.v (.int .i64 a.l[k].dst),.v (.int .i64 a.l[k].ready),.v (.int .i64 a.l[k].due)])],h,2⟩) (fun j=>j≤k∧∀ i,i < j→(a.l.getD i dC).ship ≠ a.l[k].ship) (fun j=>k - j) 0 ⟨Nat.zero_le _,fun i hi=>absurd hi (Nat.not_lt_zero _)⟩ ?_ ?_
   ·refine Evs ?_
    exact Gk
   intro j hj
   refine Wk ?_
   refine zc9 rfl (fun hq2=>?_) (fun hq2=>?_)
   ·have hltj:=zjH hq2
    have hltj':j < (a.to k).l.length:=by omega
    have hltj2:j < a.l.length:=by omega
    have hje:=Sl.to_get hltj' hltj2
    repeat' first|refine Wa ?_|(simp only [go_sem,jq,jj,jy,jv,jk,jx,zkT hgo hltj',hgo.some hltj',hltj',hltj,jW,hje];try rfl)|refine Wb ?_|fail
    refine zc9 rfl (fun hq3=>?_) (fun hq3=>?_)
    ·have hq3:=eq_of_beq hq3
     refine Wk ?_
     rw [zAb  hlt ?_]
     rw [clOk,hge,hq,Bool.true_and,zAO]
     refine decide_eq_false fun hh=>hh j hltj ?_
     rw [cget hltj2,hge];omega
    ·have hq3:=beq_eq_false_iff_ne.1 hq3
     refine Wk ?_
     refine ⟨j+1,⟨hltj,fun i hi=>?_⟩,by omega,zjB (zjA hltj (by omega))⟩
     rcases Nat.lt_succ_iff_lt_or_eq.1 hi with hi|rfl
     ·exact hj.2 i hi
     ·rw [cget hltj2];omega
   ·have hgej:=zjI hq2
    refine Wk ?_
    refine ⟨k+1,⟨hlt,zAc  hk.2 ?_⟩,by omega,zjB (zjA hlt (by omega))⟩
    rw [clOk,hge,hq,Bool.true_and,zAO]
    refine decide_eq_true fun i hi=>?_
    rw [hge];exact hj.2 i (by omega)
 ·have hge:=zjI hd
  refine Wk ?_
  rw [zAd  hge hk.2]
def zAT (c:PChart) (p:DPassage):Int × Int:=if p.toward then ((c.segments.getD p.seg.toNat dG).a,(c.segments.getD p.seg.toNat dG).b) else ((c.segments.getD p.seg.toNat dG).b,(c.segments.getD p.seg.toNat dG).a)
def zAU (s:DShip) (g:DSegment):Int:=if s.slow then IntKind.i64.wrap (2 * g.minutes) else g.minutes
def zAV (c:PChart) (l:List DShip) (p:DPassage):Bool:=decide (0≤p.ship∧p.ship < l.length∧0≤p.seg∧p.seg < c.segments.length∧0≤p.start∧p.start≤2880∧p.fin≤2880) && decide (p.fin=IntKind.i64.wrap (p.start+zAU (l.getD p.ship.toNat dH) (c.segments.getD p.seg.toNat dG)))
def zAW (c:PChart) (l:List DShip) (p:DPassage):Bool:=zz9 c && zAl l && zAV c l p
theorem zAX (c:DChart):(Con.con c).segments=c.segments.l:=zz1 _
theorem zAY (c:DChart) (p:DPassage) (hs:p.seg.toNat < c.segments.l.length):zAT (Con.con c) p=if p.toward then (c.segments.l[p.seg.toNat].a,c.segments.l[p.seg.toNat].b) else (c.segments.l[p.seg.toNat].b,c.segments.l[p.seg.toNat].a):=by
 rw [zAT,zAX,gget hs]
theorem zAZ (c:DChart) (p:DPassage) (h:Hp) (hc:Enc.ok h c) (h0:0≤p.seg) (h1:p.seg < c.segments.l.length):Ct jV 293 [c.v,p.v] h fun v h'=>v=.tuple #[.int .i64 (zAT (Con.con c) p).1,.int .i64 (zAT (Con.con c) p).2]∧h'=h:=by
 have hg:=hc.2
 have hs:p.seg.toNat < c.segments.l.length:=by omega
 rw [zAY c p hs]
 refine zdn (fun A W=>by simp) Tryz.func293 rfl rfl (by simp) fun W0=>?_
 repeat' first|refine Wa ?_|(simp (maxSteps:=2000000) only [go_sem,jq,jj,jy,jv,jk,jx,zlh hg hs,hg.some hs,hs,h0,h1];try rfl)|refine Wb ?_|fail
 refine zc9 rfl (fun hq=>?_) (fun hq=>?_)
 ·refine Wk ?_
  refine zi8 rfl (by kernel_rfl) ?_
  refine Evs ?_
  refine Wk ?_
  rw [hq];rfl
 ·refine Wk ?_
  refine zi8 rfl (by kernel_rfl) ?_
  refine Evs ?_
  refine Wk ?_
  rw [hq];rfl
theorem zA0 (c:DChart) (p:DPassage) (h:Hp) (hc:Enc.ok h c) (h0:0≤p.seg) (h1:p.seg < c.segments.l.length):Ct jV 247 [p.v,c.v] h fun v h'=>v=.tuple #[.int .i64 (zAT (Con.con c) p).1,.int .i64 (zAT (Con.con c) p).2]∧h'=h:=by
 have hg:=hc.2
 have hs:p.seg.toNat < c.segments.l.length:=by omega
 rw [zAY c p hs]
 refine zdn (fun A W=>by simp) Tryz.func247 rfl rfl (by simp) fun W0=>?_
 repeat' first|refine Wa ?_|(simp (maxSteps:=2000000) only [go_sem,jq,jj,jy,jv,jk,jx,zlh hg hs,hg.some hs,hs,h0,h1];try rfl)|refine Wb ?_|fail
 refine zc9 rfl (fun hq=>?_) (fun hq=>?_)
 ·refine Wk ?_
  refine zi8 rfl (by kernel_rfl) ?_
  refine Evs ?_
  refine Wk ?_
  rw [hq];rfl
 ·refine Wk ?_
  refine zi8 rfl (by kernel_rfl) ?_
  refine Evs ?_
  refine Wk ?_
  rw [hq];rfl
theorem zA1 (g:DSegment) (s:DShip) (h:Hp):Ct jV 231 [g.v,s.v] h fun v h'=>v=.int .i64 (zAU s g)∧h'=h:=by
 refine zdn (fun A W=>by simp) Tryz.func231 rfl rfl (by simp) fun W0=>?_
 refine Wk ?_
 refine zc9 rfl (fun hq=>?_) (fun hq=>?_)
 ·refine Wk ?_
  rw [zAU,if_pos hq]
 ·refine Wk ?_
  rw [zAU,if_neg (by rw [hq];exact Bool.false_ne_true)]
theorem zA2 (s:DShip) (g:DSegment) (h:Hp):Ct jV 243 [s.v,g.v] h fun v h'=>v=.int .i64 (zAU s g)∧h'=h:=by
 refine zdn (fun A W=>by simp) Tryz.func243 rfl rfl (by simp) fun W0=>?_
 refine Wk ?_
 refine zc9 rfl (fun hq=>?_) (fun hq=>?_)
 ·refine Wk ?_
  rw [zAU,if_pos hq]
 ·refine Wk ?_
  rw [zAU,if_neg (by rw [hq];exact Bool.false_ne_true)]
theorem zA3 (c:DChart) (k:Int) (s:DShip) (h:Hp) (hc:Enc.ok h c) (hs:Enc.ok h s):Ct jV 283 [c.v,.int .i64 k,s.v] h fun v h'=>v=.int .i64 (if zz9 (Con.con c)=true∧zAk s=true∧0≤k∧k < c.segments.l.length then zAU s (c.segments.l.getD k.toNat dG) else 0)∧h'=h:=by
 have hg:=hc.2
 have hl:=hg.max
 have hw:IntKind.i64.wrap ((c.segments.l.length:Int) - 1)=(c.segments.l.length:Int) - 1:=zjz (by omega)
 refine zdn (fun A W=>by simp) Tryz.func283 rfl rfl (by simp) fun W0=>?_
 repeat' first|refine Wa ?_|refine zhF (fun _=>zAh c _ hc) ?_|refine zhF (fun _=>zAr s _ hs) ?_|refine zhF (fun _=>zzk _ _ _ _) ?_|(simp (maxSteps:=2000000) only [go_sem,jq,jj,jy,jv,jk,jx,hw];try rfl)|refine Wb ?_|fail
 refine zc9 rfl (fun hq=>?_) (fun hq=>?_)
 ·refine Wk ?_
  simp only [jQ,Bool.not_eq_true',Bool.and_eq_false_iff,decide_eq_false_iff_not] at hq
  rw [if_neg]
  rintro ⟨h1,h2,h3,h4⟩
  rw [h1,h2] at hq
  rcases hq with (hq|hq)|hq
  ·cases hq
  ·cases hq
  ·omega
 ·simp only [jp,Bool.not_eq_false',jJ,decide_eq_true_eq] at hq
  obtain ⟨⟨h1,h2⟩,h3,h4⟩:=hq
  have hs':k.toNat < c.segments.l.length:=by omega
  have h4':k < (c.segments.l.length:Int):=by omega
  rw [if_pos ⟨h1,h2,h3,h4'⟩,gget hs']
  refine Wk ?_
  refine ziV rfl ?_
  refine zi3 [0,1,2,3,4,5] rfl (by kernel_rfl) ?_
  simp (maxSteps:=2000000) only [go_sem,jq,jj,jy,jv,jk,jx,zlh hg hs',hg.some hs',hs',h3,h4']
  refine ziT [6] (by kernel_rfl) (by kernel_rfl) ?_
  simp (maxSteps:=2000000) only [go_sem,jq,jj,jy,jv,jk,jx,zlh hg hs',hg.some hs',hs',h3,h4']
  refine zhF (fun _=>zA1 _ _ _) ?_
  simp (maxSteps:=2000000) only [go_sem,jq,jj,jy,jv,jk,jx,zlh hg hs',hg.some hs',hs',h3,h4']
  refine zi3 [7] rfl (by kernel_rfl) ?_
  refine Evs ?_
  refine ziU (by kernel_rfl) ?_
  exact Wk0
theorem zA4 (c:DChart) (l:List DShip) (p:DPassage):zAV (Con.con c) l p=(decide (0≤p.ship∧p.ship < l.length∧0≤p.seg∧p.seg < c.segments.l.length∧0≤p.start∧p.start≤2880∧p.fin≤2880) && decide (p.fin=IntKind.i64.wrap (p.start+zAU (l.getD p.ship.toNat dH) (c.segments.l.getD p.seg.toNat dG)))):=by
 rw [zAV,zAX]
theorem zA5 (c:DChart) (a:Sl DShip) (p:DPassage) (h:Hp) (hc:Enc.ok h c) (ha:a.Ok h):Ct jV 271 [c.v,a.val,p.v] h fun v h'=>v=.bool (zAV (Con.con c) a.l p)∧h'=h:=by
 have hg:=hc.2
 rw [zA4]
 refine zdn (fun A W=>by simp) Tryz.func271 rfl rfl (by simp) fun W0=>?_
 repeat' first|refine Wa ?_|refine zhF (fun _=>zzn _ _ _) ?_|refine zhF (fun _=>zzm _ _) ?_|(simp (maxSteps:=2000000) only [go_sem,jq,jj,jy,jv,jk,jx];try rfl)|refine Wb ?_|fail
 refine zc9 rfl (fun hq=>?_) (fun hq=>?_)
 ·refine Wk ?_
  simp only [jQ,Bool.not_eq_true',Bool.and_eq_false_iff,decide_eq_false_iff_not,decide_eq_true_eq] at hq
  rw [decide_eq_false (by omega),Bool.false_and]
 ·simp only [jp,Bool.not_eq_false',jJ,decide_eq_true_eq,decide_eq_false_iff_not] at hq
  have h1:0≤p.ship∧p.ship < (a.l.length:Int)∧0≤p.seg∧p.seg < (c.segments.l.length:Int)∧0≤p.start∧p.start≤2880∧p.fin≤2880:=by omega
  have hs':p.seg.toNat < c.segments.l.length:=by omega
  have hp':p.ship.toNat < a.l.length:=by omega
  rw [decide_eq_true h1,Bool.true_and,gget hs',hget hp']
  refine Wk ?_
  refine ziV rfl ?_
  refine zi3 [0,1,2,3,4,5,6,7,8,9,10,11,12,13,14] rfl (by kernel_rfl) ?_
  simp (maxSteps:=2000000) only [go_sem,jq,jj,jy,jv,jk,jx,zlh hg hs',hg.some hs',hs',h1.2.2.1,h1.2.2.2.1,zln ha hp',ha.some hp',hp',h1.1,h1.2.1]
  refine ziT [15] (by kernel_rfl) (by kernel_rfl) ?_
  simp (maxSteps:=2000000) only [go_sem,jq,jj,jy,jv,jk,jx,zlh hg hs',hg.some hs',hs',h1.2.2.1,h1.2.2.2.1,zln ha hp',ha.some hp',hp',h1.1,h1.2.1]
  refine zhF (fun _=>zA2 _ _ _) ?_
  simp (maxSteps:=2000000) only [go_sem,jq,jj,jy,jv,jk,jx,zlh hg hs',hg.some hs',hs',h1.2.2.1,h1.2.2.2.1,zln ha hp',ha.some hp',hp',h1.1,h1.2.1]
  refine zi3 [16,17,18] rfl (by kernel_rfl) ?_
  refine Evs ?_
  refine ziU (by kernel_rfl) ?_
  exact Wk0
theorem zA6 (c:DChart) (a:Sl DShip) (p:DPassage) (h:Hp) (hc:Enc.ok h c) (ha:a.Ok h):Ct jV 248 [c.v,a.val,p.v] h fun v h'=>v=.bool (zAW (Con.con c) a.l p)∧h'=h:=by
 rw [zAW]
 refine zdn (fun A W=>by simp) Tryz.func248 rfl rfl (by simp) fun W0=>?_
 repeat' first|refine Wa ?_|refine zhF (fun _=>zAi c _ hc) ?_|refine zhF (fun _=>zAw _ _ ha) ?_|refine zhF (fun _=>zA5 c a p _ hc ha) ?_|(simp (maxSteps:=2000000) only [go_sem,jq,jj,jy,jv,jk,jx];try rfl)|refine Wb ?_|fail
theorem zA7 (c:DChart) (a:Sl DShip) (p:DPassage) (h:Hp) (hc:Enc.ok h c) (ha:a.Ok h):Ct jV 292 [c.v,a.val,p.v] h fun v h'=>v=.bool (zAW (Con.con c) a.l p)∧h'=h:=by
 have hg:=hc.2
 have hl:=hg.max
 have hl2:=ha.max
 have hw:IntKind.i64.wrap ((c.segments.l.length:Int) - 1)=(c.segments.l.length:Int) - 1:=zjz (by omega)
 have hw2:IntKind.i64.wrap ((a.l.length:Int) - 1)=(a.l.length:Int) - 1:=zjz (by omega)
 rw [zAW,zA4]
 refine zdn (fun A W=>by simp) Tryz.func292 rfl rfl (by simp) fun W0=>?_
 repeat' first|refine Wa ?_|refine zhF (fun _=>zAh c _ hc) ?_|refine zhF (fun _=>zAs _ _ ha) ?_|refine zhF (fun _=>zzk _ _ _ _) ?_|(simp (maxSteps:=2000000) only [go_sem,jq,jj,jy,jv,jk,jx,hw,hw2];try rfl)|refine Wb ?_|fail
 refine zc9 rfl (fun hq=>?_) (fun hq=>?_)
 ·refine Wk ?_
  congr 1
  simp only [jQ,Bool.not_eq_true',Bool.and_eq_false_iff,decide_eq_false_iff_not] at hq
  rcases hq with (((hq|hq)|hq)|hq)|hq
  ·rw [hq];rfl
  ·rw [hq,Bool.and_false];rfl
  ·rw [decide_eq_false (p:=0≤p.ship∧_) (by omega),Bool.false_and,Bool.and_false]
  ·rw [decide_eq_false (p:=0≤p.ship∧_) (by omega),Bool.false_and,Bool.and_false]
  ·rw [decide_eq_false (p:=0≤p.ship∧_) (by omega),Bool.false_and,Bool.and_false]
 ·simp only [jp,Bool.not_eq_false',jJ,decide_eq_true_eq] at hq
  obtain ⟨⟨⟨⟨hC,hF⟩,h1,h2⟩,h3,h4⟩,h5,h6⟩:=hq
  have h2':p.ship < (a.l.length:Int):=by omega
  have h4':p.seg < (c.segments.l.length:Int):=by omega
  have hs':p.seg.toNat < c.segments.l.length:=by omega
  have hp':p.ship.toNat < a.l.length:=by omega
  have hsh:zAk a.l[p.ship.toNat]=true:=by
   have h9:=of_decide_eq_true (Bool.and_eq_true_iff.1 hF).2 p.ship.toNat hp'
   rw [shOk,hget hp'] at h9
   exact (Bool.and_eq_true_iff.1 h9).1
  rw [hC,hF,Bool.and_self,Bool.true_and,gget hs',hget hp']
  refine Wk ?_
  refine ziV rfl ?_
  refine zi3 [0,1,2,3,4,5,6,7,8,9,10,11] rfl (by kernel_rfl) ?_
  simp (maxSteps:=2000000) only [go_sem,jq,jj,jy,jv,jk,jx,zln ha hp',ha.some hp',hp',h1,h2']
  refine ziT [12] (by kernel_rfl) (by kernel_rfl) ?_
  simp (maxSteps:=2000000) only [go_sem,jq,jj,jy,jv,jk,jx,zln ha hp',ha.some hp',hp',h1,h2']
  refine zhF (fun _=>zA3 c _ _ _ hc (ha.el hp')) ?_
  simp (maxSteps:=2000000) only [go_sem,jq,jj,jy,jv,jk,jx,zln ha hp',ha.some hp',hp',h1,h2']
  refine zi3 [13,14,15,16,17,18,19,20] rfl (by kernel_rfl) ?_
  refine Evs ?_
  refine ziU (by kernel_rfl) ?_
  refine Wk ?_
  rw [if_pos ⟨hC,hsh,h3,h4'⟩,gget hs']
  congr 1
  rw [Bool.eq_iff_iff]
  simp only [jJ,decide_eq_true_eq,beq_iff_eq]
  constructor <;> intro hh <;> omega
end Go.Proofs.YtdejfjdbcggilaaGreat
