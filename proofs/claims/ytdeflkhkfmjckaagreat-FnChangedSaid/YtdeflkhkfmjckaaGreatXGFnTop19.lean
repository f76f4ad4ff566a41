/- What functions of the given program compute, as contracts. -/
import Derived.Test.YtdeflkhkfmjckaaGreatSGFnTopx18
import Derived.Test.YtdeflkhkfmjckaaGreatSGFnTopx3
import Derived.Test.YtdeflkhkfmjckaaGreatXGFnTop12
import Derived.Test.YtdeflkhkfmjckaaGreatXGFnTop13
import Derived.Test.YtdeflkhkfmjckaaGreatXGFnTop14
import Derived.Test.YtdeflkhkfmjckaaGreatXGFnTop16
import Derived.Test.YtdeflkhkfmjckaaGreatXGFnTop17
import Derived.Test.YtdeflkhkfmjckaaGreatXGFnTop6
import Derived.Test.YtdeflkhkfmjckaaGreatXGFnTop9
set_option linter.unusedVariables false
set_option linter.unusedSimpArgs false
set_option maxRecDepth 4000
open Nat renaming reduceAdd → jq, reduceMul → jj, reduceBEq → jy, reduceLeDiff → jv, reduceLT → jk, reduceEqDiff → jx
open Bool renaming or_eq_false_iff → jp, or_eq_true → jQ, and_eq_true → jJ
open Int renaming toNat_natCast → jW, natCast_nonneg → jY
open Go.Proofs.Tryz renaming prog → jV
namespace Go.Proofs.YtdeflkhkfmjckaaGreat
open Go Go.SL
set_option maxHeartbeats 1000000
def GC0 (a:DCall):Prop:=((a.src=0∧a.dst=3)∨(a.src=3∧a.dst=0))∧(0≤a.ready∧a.ready≤435)∧(a.ready+60≤a.due∧a.due < a.ready+460)
theorem zDF {h:Hp} {a:DCall} (H:GC0 a) (hs:I64 a.ship):Enc.ok h a:=by
 obtain ⟨h1,h2,h3⟩:=H
 refine ⟨hs,?_,?_,?_,?_⟩ <;> unfold I64 <;> omega
set_option maxRecDepth 30000 in
theorem zDG (sh:Int) (c:Sl U8) (h:Hp) (b:Nat) (H:Cu 129 c h b):Cw jV 65 [.pointer (some ⟨b,0,none⟩),.int .i64 sh] h (fun k=>k=b) fun v h'=>∃ a:DCall,(v=a.v∧a.ship=sh∧GC0 a)∧Cg 129 c h b h':=by
 refine zlh (fun A W=>by simp) Tryz.func65 rfl rfl (by simp)  (fun q hq=>by rw [hq];exact H.ne) fun W0 hW=>?_
 have own:W0.own b:=hW b rfl
 (first|refine zie rfl ?_|refine zc4 rfl ?_|(refine zc3 ?_;first|refine zie rfl ?_|refine zc4 rfl ?_));simp only [go_sem,jq,jj,jy,jv,jk,jx]
 first|refine zmR [0,0,1] rfl ?_|refine zmQ [0,0,1] rfl ?_|(refine zc3 ?_;first|refine zmR [0,0,1] rfl ?_|refine zmQ [0,0,1] rfl ?_)
 refine Evs ?_
 refine zli (zDb c 30 _ b H (by decide)) rfl (fun q hq=>⟨by rw [hq];exact H.ne,.inr (hq ▸ own)⟩) ?_
 rintro v h1 - ⟨k1,⟨rfl,a1,b1⟩,G1⟩
 have C1:=G1.1
 refine Evs ?_
 rw [zjz (n:=15 * k1) (by omega)]
 first|refine zmR [0,1] rfl ?_|refine zmQ [0,1] rfl ?_|(refine zc3 ?_;first|refine zmR [0,1] rfl ?_|refine zmQ [0,1] rfl ?_)
 refine Evs ?_
 refine zli (zDc c 3 _ b C1 (by decide)) rfl (fun q hq=>⟨by rw [hq];exact C1.ne,.inr (hq ▸ own)⟩) ?_
 rintro v h2 - ⟨q2,rfl,G2⟩
 have C2:=G2.1
 refine Evs ?_
 repeat' first|refine zc8 ?_|(refine zc5 ?_;simp only [go_sem,jq,jj,jy,jv,jk,jx])|refine zc3 ?_
 refine zod (ι:=Int × Int) (fun i=>⟨[(0,true,.c (.v (.pointer (some ⟨b,0,none⟩)))),(4,true,.c (.p 0 0)),(5,true,.c (.p 1 0))],[(0,.box 89 [.v (.int .i64 0),.v (.int .i64 0),.v (.int .i64 0),.v (.int .i64 0),.v (.int .i64 0)]),(1,.box 89 [.v (.int .i64 sh),.v (.int .i64 i.1),.v (.int .i64 i.2),.v (.int .i64 (15 * k1)),.v (.int .i64 0)])],h2,2⟩)
  (fun i=>(i.1=0∧i.2=3)∨(i.1=3∧i.2=0)) (fun _=>rfl) ?_ ?_
 ·refine zc9 rfl (fun hq=>?_) (fun hq=>?_)
  ·refine Wk ?_
   refine ⟨(3,0),[0,1],.inr ⟨rfl,rfl⟩,?_⟩
   refine Evs ?_
   repeat' first|exact rfl|exact trivial|assumption|decide|refine And.intro ?_ ?_
  ·repeat' first|refine zc8 ?_|(refine zc5 ?_;simp only [go_sem,jq,jj,jy,jv,jk,jx])|refine zc3 ?_
   refine ⟨(0,3),[0,1],.inl ⟨rfl,rfl⟩,?_⟩
   refine Evs ?_
   repeat' first|exact rfl|exact trivial|assumption|decide|refine And.intro ?_ ?_
 rintro ⟨i1,i2⟩ hi
 simp only at hi
 repeat' first|refine zc8 ?_|(refine zc5 ?_;simp only [go_sem,jq,jj,jy,jv,jk,jx])|refine zc3 ?_
 refine znv rfl ?_
 refine U_t [0,3,1,2] rfl ?_
 refine Evs ?_
 refine U_1 4 1 [2,1,0] rfl rfl ?_
 refine Evs ?_
 refine zli (zDb c 400 _ b C2 (by decide)) rfl (fun q hq=>⟨by rw [hq];exact C2.ne,.inr (hq ▸ own)⟩) ?_
 rintro v h3 - ⟨k3,⟨rfl,a3,b3⟩,G3⟩
 have C3:=G3.1
 refine Evs ?_
 refine U_t [5,6] rfl ?_
 refine Evs ?_
 refine U_1 7 0 [] rfl rfl ?_
 refine Evs ?_
 refine U_d ?_
 rw [zjz (n:=15 * k1+60) (by omega),zjz (n:=15 * k1+60+k3) (by omega)]
 refine Wk ?_
 exact ⟨⟨sh,i1,i2,15 * k1,15 * k1+60+k3⟩,⟨rfl,rfl,hi,(by show 0≤15 * k1∧15 * k1≤435;omega),(by show 15 * k1+60≤15 * k1+60+k3∧15 * k1+60+k3 < 15 * k1+460;omega)⟩,(G1.trans G2).trans G3⟩
theorem zNU {x:DHarbour} {l:List DCall} {i:Nat} {a:DCall} (h1:∀ y ∈ l,zCK x y∧y.ship < i) (h2:l.Pairwise fun y z=>y.ship < z.ship) (ha:zCK x a) (hs:a.ship=i):(∀ y ∈ l ++ [a],zCK x y∧y.ship < (i+1:Nat))∧(l ++ [a]).Pairwise fun y z=>y.ship < z.ship:=by
 refine ⟨fun y hy=>?_,?_⟩
 ·rcases List.mem_append.1 hy with hy|hy
  ·obtain ⟨k1,k2⟩:=h1 y hy
   exact ⟨k1,by omega⟩
  ·rw [List.mem_singleton.1 hy];exact ⟨ha,by omega⟩
 ·rw [List.pairwise_append]
  refine ⟨h2,List.pairwise_singleton ..,fun y hy z hz=>?_⟩
  rw [List.mem_singleton.1 hz,hs]
  exact (h1 y hy).2
set_option maxRecDepth 30000 in
theorem zNV (c:Sl U8) (h:Hp) (b:Nat) (H:Cu 129 c h b):Cw jV 27 [.pointer (some ⟨b,0,none⟩)] h (fun k=>k=b) fun v h'=>∃ (x:DHarbour) (s:Sl DCall),(v=.tuple #[x.v,s.val]∧zCJ x∧zLg x s.l∧Enc.ok (h'.del b) x∧s.Ok (h'.del b))∧Cg 129 c h b h':=by
 refine zlh (fun A W=>by simp) Tryz.func27 rfl rfl (by simp)  (fun q hq=>by rw [hq];exact H.ne) fun W0 hW=>?_
 have own:W0.own b:=hW b rfl
 (first|refine zie rfl ?_|refine zc4 rfl ?_|(refine zc3 ?_;first|refine zie rfl ?_|refine zc4 rfl ?_));simp only [go_sem,jq,jj,jy,jv,jk,jx]
 first|refine zmR [0,1] rfl ?_|refine zmQ [0,1] rfl ?_|(refine zc3 ?_;first|refine zmR [0,1] rfl ?_|refine zmQ [0,1] rfl ?_)
 refine Evs ?_
 refine zli (zDz c _ b H) rfl (fun q hq=>⟨by rw [hq];exact H.ne,.inr (hq ▸ own)⟩) ?_
 rintro v h1 - ⟨x,⟨rfl,gx,okx⟩,G1⟩
 have C1:=G1.1
 refine Evs ?_
 have hfl:=gx.fleet.1
 (first|refine zie rfl ?_|refine zc4 rfl ?_|(refine zc3 ?_;first|refine zie rfl ?_|refine zc4 rfl ?_));simp only [go_sem,jq,jj,jy,jv,jk,jx]
 (first|refine zie rfl ?_|refine zc4 rfl ?_|(refine zc3 ?_;first|refine zie rfl ?_|refine zc4 rfl ?_));simp only [go_sem,jq,jj,jy,jv,jk,jx]
 obtain ⟨n,hn⟩:∃ n,x.fleet.l.length=n:=⟨_,rfl⟩
 rw [hn]
 repeat' first|refine zc8 ?_|(refine zc5 ?_;simp only [go_sem,jq,jj,jy,jv,jk,jx])|refine zc3 ?_
 refine zoe (ι:=Nat × List DCall × Hp) (fun i=>⟨[(0,true,.c (.v (.pointer (some ⟨b,0,none⟩)))),(2,true,.c (.p 0 0)),(3,true,.c (.v (.slice none 0 0))),(4,true,.c (.p 1 0)),(5,true,.c (.s 2)),(12,true,.c (.v (.int .i64 n))),(13,true,.c (.v (.int .i64 i.1)))],[(0,.box 40 [.v (.int .i64 0),.v (.slice none 0 0),.v (.slice none 0 0),.v (.slice none 0 0),.v (.slice none 0 0),.v (.slice none 0 0),.v (.int .i64 0),.v (.bool false),.v (.int .i64 0),.v (.int .i64 0),.v (.int .i64 0),.v (.slice none 0 0)]),(1,.box 40 [.v (.int .i64 x.forecast.tide.mean),.v x.forecast.tide.parts.val,.v x.forecast.surges.val,.v x.chart.points.val,.v x.chart.segments.val,.v x.fleet.val,.v (.int .i64 x.regime.gap),.v (.bool x.regime.noMeet),.v (.int .i64 x.crew.tugs),.v (.int .i64 x.crew.pilots),.v (.int .i64 x.crew.rest),.v x.crew.moves.val]),(2,.row 89 5 i.2.1.length (i.2.1.flatMap Enc.enc))],i.2.2,3⟩)
  (fun i=>i.1≤n∧i.2.1.length≤i.1∧(0 < i.1→1≤i.2.1.length)∧(∀ y ∈ i.2.1,zCK x y∧y.ship < (i.1:Nat))∧(i.2.1.Pairwise fun y z=>y.ship < z.ship)∧Cg 129 c h1 b i.2.2) (fun i=>n - i.1) (0,[],h1)
  ⟨Nat.zero_le _,Nat.le_refl _,fun e=>absurd e (Nat.lt_irrefl _),(fun y hy=>by cases hy),List.Pairwise.nil,Cg.refl C1⟩ [0,1,2] ?_ ?_
 ·refine Evs ?_
  repeat' first|exact rfl|exact trivial|assumption|decide|refine And.intro ?_ ?_
 rintro ⟨i,ls,hk⟩ ⟨hi,hl,h0l,hg,hp,Gk⟩
 simp only at hi hl h0l hg hp Gk
 have Ck:=Gk.1
 refine Wk ?_
 refine zc9 rfl (fun hd=>?_) (fun hd=>?_)
 ·have hlt:i < n:=by have:=of_decide_eq_true hd;omega
  repeat' first|refine zc8 ?_|(refine zc5 ?_;simp only [go_sem,jq,jj,jy,jv,jk,jx])|refine zc3 ?_
  (first|refine zie rfl ?_|refine zc4 rfl ?_|(refine zc3 ?_;first|refine zie rfl ?_|refine zc4 rfl ?_));simp only [go_sem,jq,jj,jy,jv,jk,jx]
  repeat' first|refine zc8 ?_|(refine zc5 ?_;simp only [go_sem,jq,jj,jy,jv,jk,jx])|refine zc3 ?_
  refine zoc (ι:=Bool × Hp) (fun j=>⟨[(0,true,.c (.v (.pointer (some ⟨b,0,none⟩)))),(2,true,.c (.p 0 0)),(3,true,.c (.v (.slice none 0 0))),(4,true,.c (.p 1 0)),(5,true,.c (.s 2)),(6,true,.c (.v (.int .i64 i))),(12,true,.c (.v (.int .i64 n))),(13,true,.c (.v (.int .i64 i))),(22,true,.c (.v (.bool j.1)))],[(0,.box 40 [.v (.int .i64 0),.v (.slice none 0 0),.v (.slice none 0 0),.v (.slice none 0 0),.v (.slice none 0 0),.v (.slice none 0 0),.v (.int .i64 0),.v (.bool false),.v (.int .i64 0),.v (.int .i64 0),.v (.int .i64 0),.v (.slice none 0 0)]),(1,.box 40 [.v (.int .i64 x.forecast.tide.mean),.v x.forecast.tide.parts.val,.v x.forecast.surges.val,.v x.chart.points.val,.v x.chart.segments.val,.v x.fleet.val,.v (.int .i64 x.regime.gap),.v (.bool x.regime.noMeet),.v (.int .i64 x.crew.tugs),.v (.int .i64 x.crew.pilots),.v (.int .i64 x.crew.rest),.v x.crew.moves.val]),(2,.row 89 5 ls.length (ls.flatMap Enc.enc))],j.2,3⟩)
   (fun j=>(i=0→j.1=true)∧Cg 129 c h1 b j.2) ?_ ?_
  ·rcases Nat.eq_zero_or_pos i with h0|h0
   ·have hz:((i:Int) == 0)=true:=by rw [h0];rfl
    refine zc4 rfl ?_
    simp only [go_sem,jq,jj,jy,jv,jk,jx,hz,Bool.not_true,Bool.not_false,Bool.false_eq_true,false_implies,true_and,implies_true]
    refine zhF (V:=.bool false) (fun hg=>by cases hg) ?_
    simp only [go_sem,jq,jj,jy,jv,jk,jx,hz,Bool.not_true,Bool.not_false,Bool.false_eq_true,false_implies,true_and,implies_true]
    refine ⟨(true,hk),[0,1,2],⟨fun _=>rfl,Gk⟩,?_⟩
    repeat' first|exact rfl|exact trivial|assumption|decide|refine And.intro ?_ ?_
   ·have hz:((i:Int) == 0)=false:=by rw [beq_eq_false_iff_ne];omega
    first|refine zNT [0,0,0,0,7] rfl ?_|refine zNS [0,0,0,0,7] rfl ?_|(refine zc3 ?_;first|refine zNT [0,0,0,0,7] rfl ?_|refine zNS [0,0,0,0,7] rfl ?_)
    simp only [go_sem,jq,jj,jy,jv,jk,jx,hz]
    simp only [vgd]
    simp only [go_sem,jq,jj,jy,jv,jk,jx,hz,Bool.not_true,Bool.not_false,Bool.false_eq_true,false_implies,true_and,implies_true]
    refine zli (zDc c 4 _ b Ck (by decide)) rfl (fun q hq=>⟨by rw [hq];exact Ck.ne,.inr (hq ▸ own)⟩) ?_
    rintro v h2 - ⟨k2,rfl,G2⟩
    have C2:=G2.1
    simp only [go_sem,jq,jj,jy,jv,jk,jx,hz,Bool.not_true,Bool.not_false,Bool.false_eq_true,false_implies,true_and,implies_true]
    refine ⟨(!k2,h2),[0,1,2],⟨fun e=>by omega,Gk.trans G2⟩,?_⟩
    refine Evs ?_
    repeat' first|exact rfl|exact trivial|assumption|decide|refine And.intro ?_ ?_
  rintro ⟨q,hj⟩ ⟨hq0,Gj⟩
  simp only at hq0 Gj
  have Cj:=Gj.1
  repeat' first|refine zc8 ?_|(refine zc5 ?_;simp only [go_sem,jq,jj,jy,jv,jk,jx])|refine zc3 ?_
  refine zc9 rfl (fun hq=>?_) (fun hq=>?_)
  ·repeat' first|refine zc8 ?_|(refine zc5 ?_;simp only [go_sem,jq,jj,jy,jv,jk,jx])|refine zc3 ?_
   first|refine zmR [0,0,0,1] rfl ?_|refine zmQ [0,0,0,1] rfl ?_|(refine zc3 ?_;first|refine zmR [0,0,0,1] rfl ?_|refine zmQ [0,0,0,1] rfl ?_)
   refine Evs ?_
   refine zli (zDG i c _ b Cj) rfl (fun q hq=>⟨by rw [hq];exact Cj.ne,.inr (hq ▸ own)⟩) ?_
   rintro v h3 - ⟨a,⟨rfl,ea,ga⟩,G3⟩
   have C3:=G3.1
   refine Evs ?_
   refine ⟨by simp only [maxLen];omega,by omega,?_⟩
   try simp only [go_sem,jq,jj,jy,jv,jk,jx]
   repeat' first|refine zc8 ?_|(refine zc5 ?_;simp only [go_sem,jq,jj,jy,jv,jk,jx])|refine zc3 ?_
   (first|refine zie rfl ?_|refine zc4 rfl ?_|(refine zc3 ?_;first|refine zie rfl ?_|refine zc4 rfl ?_));simp only [go_sem,jq,jj,jy,jv,jk,jx]
   obtain ⟨g1,g2⟩:=zNU (x:=x) (a:=a) hg hp ⟨by rw [ea];omega,ga⟩ ea
   refine ⟨(i+1,ls ++ [a],h3),[0,1,4],⟨hlt,by rw [List.length_append,List.length_singleton];omega,(fun _=>by rw [List.length_append,List.length_singleton];omega),g1,g2,Gj.trans G3⟩,(by show n - (i+1) < n - i;omega),?_⟩
   simp only [go_sem,jq,jj,jy,jv,jk,jx,List.length_append,List.flatMap_append]
   repeat' first|exact zjB (zjA hlt (by omega))|exact rfl|exact trivial|assumption|decide|refine And.intro ?_ ?_
  ·repeat' first|refine zc8 ?_|(refine zc5 ?_;simp only [go_sem,jq,jj,jy,jv,jk,jx])|refine zc3 ?_
   (first|refine zie rfl ?_|refine zc4 rfl ?_|(refine zc3 ?_;first|refine zie rfl ?_|refine zc4 rfl ?_));simp only [go_sem,jq,jj,jy,jv,jk,jx]
   have hi0:0 < i:=by
    rcases Nat.eq_zero_or_pos i with e|e
    ·rw [hq0 e] at hq;cases hq
    ·exact e
   refine ⟨(i+1,ls,hj),[0,1,2],⟨hlt,(by show ls.length≤i+1;omega),(fun _=>h0l hi0),(fun y hy=>⟨(hg y hy).1,by have:=(hg y hy).2;omega⟩),hp,Gj⟩,(by show n - (i+1) < n - i;omega),?_⟩
   refine Evs ?_
   repeat' first|exact zjB (zjA hlt (by omega))|exact rfl|exact trivial|assumption|decide|refine And.intro ?_ ?_
 have hin:i=n:=by have:=of_decide_eq_false hd;omega
 refine zc6 ?_
 refine Evs ?_
 refine znD 2 ls rfl rfl rfl rfl fun s h9 e9 R9 f9 le9 _=>?_
 refine Wk ?_
 have G9:=Gk.grow le9
 have ks:s.Ok (h9.del b):=(zou R9 f9 Ck.ne).ok (by decide) fun y hy=>by
  rw [e9] at hy
  obtain ⟨⟨a1,a2⟩,a3⟩:=hg y hy
  exact zDF a2 (by unfold I64;omega)
 exact ⟨x,s,⟨rfl,gx,⟨by rw [e9];omega,by rw [e9];exact fun y hy=>(hg y hy).1,by rw [e9];exact hp⟩,Enc.mono G9.2 okx,ks⟩,G1.trans G9⟩
theorem zNW (c:Sl U8) (h:Hp) (hc:c.Ok h):Ct jV 5 [c.val] h fun v h'=>∃ (x:DHarbour) (s:Sl DCall),v=.tuple #[x.v,s.val]∧zCJ x∧zLg x s.l∧Enc.ok h' x∧s.Ok h':=by
 refine zdn (fun A W=>by simp) Tryz.func5 rfl rfl (by simp) fun W0=>?_
 (first|refine zie rfl ?_|refine zc4 rfl ?_|(refine zc3 ?_;first|refine zie rfl ?_|refine zc4 rfl ?_));simp only [go_sem,jq,jj,jy,jv,jk,jx]
 first|refine zmR [0,0,1] rfl ?_|refine zmQ [0,0,1] rfl ?_|(refine zc3 ?_;first|refine zmR [0,0,1] rfl ?_|refine zmQ [0,0,1] rfl ?_)
 refine Evs ?_
 refine zkj (zC7 c _ hc) rfl ?_
 rintro v h1 le1 ⟨b,rfl,hb,C1⟩
 refine Evs ?_
 refine zli (zNV c _ b C1) rfl (fun q hq=>⟨by rw [hq];exact C1.ne,.inl (by rw [hq];exact hb)⟩) ?_
 rintro v h2 - ⟨x,s,⟨rfl,gx,gs,okx,oks⟩,G2⟩
 have C2:=G2.1
 refine Evs ?_
 refine Wk ?_
 exact ⟨x,s,rfl,gx,gs,Enc.mono zoq okx,oks.mono zoq⟩
theorem zDI (c:Sl U8) (n:Nat) (h:Hp) (hc:c.Ok h) (hn:n≤100000):Ct jV 60 [c.val,.int .i64 n] h fun v h'=>∃ b,v=.pointer (some ⟨b,0,none⟩)∧h b=none∧Cu 129 c h' b:=by
 refine zdn (fun A W=>by simp) Tryz.func60 rfl rfl (by simp) fun W0=>?_
 (first|refine zie rfl ?_|refine zc4 rfl ?_|(refine zc3 ?_;first|refine zie rfl ?_|refine zc4 rfl ?_));simp only [go_sem,jq,jj,jy,jv,jk,jx]
 (first|refine zie rfl ?_|refine zc4 rfl ?_|(refine zc3 ?_;first|refine zie rfl ?_|refine zc4 rfl ?_));simp only [go_sem,jq,jj,jy,jv,jk,jx]
 refine zkj (zC7 c _ hc) rfl ?_
 rintro v h1 le1 ⟨b,rfl,hb,C1⟩
 refine Evs ?_
 (first|refine zie rfl ?_|refine zc4 rfl ?_|(refine zc3 ?_;first|refine zie rfl ?_|refine zc4 rfl ?_));simp only [go_sem,jq,jj,jy,jv,jk,jx]
 repeat' first|refine zc8 ?_|(refine zc5 ?_;simp only [go_sem,jq,jj,jy,jv,jk,jx])|refine zc3 ?_
 refine zoe (ι:=Nat × Hp) (fun i=>⟨[(1,true,.c (.v (.int .i64 n))),(4,true,.c (.v (.pointer none))),(5,true,.c (.v (.pointer (some ⟨b,0,none⟩)))),(6,true,.c (.v (.int .i64 i.1)))],[],i.2,0⟩)
  (fun i=>i.1≤n∧Cg 129 c h1 b i.2) (fun i=>n - i.1) (0,h1) ⟨Nat.zero_le _,Cg.refl C1⟩ [] ?_ ?_
 ·refine Evs ?_
  repeat' first|exact rfl|exact trivial|assumption|decide|refine And.intro ?_ ?_
 rintro ⟨i,hk⟩ ⟨hi,Gk⟩
 simp only at hi Gk
 have Ck:=Gk.1
 refine Wk ?_
 refine zc9 rfl (fun hd=>?_) (fun hd=>?_)
 ·have hlt:i < n:=by have:=of_decide_eq_true hd;omega
  repeat' first|refine zc8 ?_|(refine zc5 ?_;simp only [go_sem,jq,jj,jy,jv,jk,jx])|refine zc3 ?_
  first|refine zmR [0,1] rfl ?_|refine zmQ [0,1] rfl ?_|(refine zc3 ?_;first|refine zmR [0,1] rfl ?_|refine zmQ [0,1] rfl ?_)
  refine Evs ?_
  refine zli (zC9 c _ b Ck) rfl (fun q hq=>⟨by rw [hq];exact Ck.ne,.inl (by rw [hq];exact hb)⟩) ?_
  rintro v h3 - ⟨k3,⟨rfl,a3,b3⟩,G3⟩
  have C3:=G3.1
  refine Evs ?_
  repeat' first|refine zc8 ?_|(refine zc5 ?_;simp only [go_sem,jq,jj,jy,jv,jk,jx])|refine zc3 ?_
  (first|refine zie rfl ?_|refine zc4 rfl ?_|(refine zc3 ?_;first|refine zie rfl ?_|refine zc4 rfl ?_));simp only [go_sem,jq,jj,jy,jv,jk,jx]
  refine ⟨(i+1,h3),[],⟨hlt,Gk.trans G3⟩,(by show n - (i+1) < n - i;omega),?_⟩
  refine Evs ?_
  repeat' first|exact zjB (zjA hlt (by omega))|exact rfl|exact trivial|assumption|decide|refine And.intro ?_ ?_
 refine Wk ?_
 exact ⟨b,rfl,hb,Ck⟩
theorem zDJ (c:Sl U8) (n:Nat) (h:Hp) (hc:c.Ok h) (hn:n≤100000):Ct jV 25 [c.val,.int .i64 n] h fun v h'=>∃ k:Int,v=.int .i64 k∧0≤k∧k < 65536:=by
 refine zdn (fun A W=>by simp) Tryz.func25 rfl rfl (by simp) fun W0=>?_
 (first|refine zie rfl ?_|refine zc4 rfl ?_|(refine zc3 ?_;first|refine zie rfl ?_|refine zc4 rfl ?_));simp only [go_sem,jq,jj,jy,jv,jk,jx]
 (first|refine zie rfl ?_|refine zc4 rfl ?_|(refine zc3 ?_;first|refine zie rfl ?_|refine zc4 rfl ?_));simp only [go_sem,jq,jj,jy,jv,jk,jx]
 refine zkj (zDI c n _ hc hn) rfl ?_
 rintro v h1 le1 ⟨b,rfl,hb,C1⟩
 refine Evs ?_
 first|refine zmR [0,1,0,0,1] rfl ?_|refine zmQ [0,1,0,0,1] rfl ?_|(refine zc3 ?_;first|refine zmR [0,1,0,0,1] rfl ?_|refine zmQ [0,1,0,0,1] rfl ?_)
 refine Evs ?_
 refine zli (zC9 c _ b C1) rfl (fun q hq=>⟨by rw [hq];exact C1.ne,.inl (by rw [hq];exact hb)⟩) ?_
 rintro v h2 - ⟨k2,⟨rfl,a2,b2⟩,G2⟩
 have C2:=G2.1
 refine Evs ?_
 refine zli (zC9 c _ b C2) rfl (fun q hq=>⟨by rw [hq];exact C2.ne,.inl (by rw [hq];exact hb)⟩) ?_
 rintro v h3 - ⟨k3,⟨rfl,a3,b3⟩,G3⟩
 have C3:=G3.1
 refine Evs ?_
 rw [zjz (n:=k2 * 256) (by omega),zjz (n:=k2 * 256+k3) (by omega)]
 refine Wk ?_
 exact ⟨_,rfl,by omega,by omega⟩
set_option maxRecDepth 100000 in
theorem zNX (a0:Sl U8) (h:Hp) (oa0:a0.Ok h):Ct jV 3 [a0.val] h fun v h'=>v=.bool true:=by
 refine zdn (fun A W=>by simp) Tryz.func3 rfl rfl (by simp) fun W0=>?_
 refine Wk ?_
 refine zc9 rfl (fun hq=>?_) (fun hq=>?_)
 ·exact Wk0
 refine Wk ?_
 refine zkj (zNW a0 _ oa0) rfl ?_
 rintro v h1 le1 ⟨x,a,rfl,gx,ga,okx,oka⟩
 have hca:(Con.con a:List DCall)=a.l:=zJK a
 have hc:=zLh gx ga
 have hcs:zMU (Con.con x) a.l=(zLC (Con.con x) a.l).2.2:=rfl
 have hn6:=zMj hc
 have hfl:(Con.con x.fleet:List DShip)=x.fleet.l:=zu4 _
 refine Wk ?_
 refine zkj (zMw x a _ okx oka) rfl ?_
 rintro v h2 le2 ⟨ch,rfl,ech,okch,_⟩
 have okx2:=Enc.mono (x:=x) le2 okx
 have oka2:=oka.mono le2
 rw [hca] at ech
 obtain ⟨sv,hsv⟩:∃ sv,(zLC (Con.con x) a.l).2.2=sv:=⟨_,rfl⟩
 obtain ⟨co,hco⟩:∃ co,(zLC (Con.con x) a.l).2.1=co:=⟨_,rfl⟩
 rw [hca,hsv,hco]
 refine Wk ?_
 refine zhF (fun _=>zJL x a _ okx2 oka2) ?_
 simp (maxSteps:=2000000) only [go_sem,jq,jj,jy,jv,jk,jx,hca,hc,Bool.not_true,Bool.not_false,Bool.true_or,Bool.or_true,Bool.or_false,Bool.false_or,Bool.and_true,Bool.true_and,Bool.and_false,Bool.false_and,Bool.false_eq_true,false_implies,true_and,and_true,implies_true,bne_self_eq_false,beq_self_eq_true,reduceCtorEq]
 refine zc9 rfl (fun hz=>?_) (fun hz=>?_)
 ·cases hz
 refine Wk ?_
 obtain ⟨pl1,pl2⟩:=zMl hc []
 cases sv with
 | false =>
  refine zc9 rfl (fun hz=>?_) (fun hz=>?_)
  case refine_2=>cases hz
  obtain ⟨_,_,_,_,r5⟩:=zNC hc
  obtain ⟨r1,_⟩:=r5 (by rw [hcs];exact hsv)
  have hch:((ch.l.length:Int) == 0)=true:=by
   have h9:=(pl1 hsv).1
   rw [← ech,con_ints] at h9
   rw [h9];rfl
  refine Wk ?_
  refine zkj (zNo x a _ okx2 oka2) rfl ?_
  rintro v h3 le3 ⟨r,rfl,er,okr,_⟩
  rw [hca] at er
  have hrl:r.l.length=(zNl (Con.con x) a.l).length:=by rw [← er,con_ints]
  have q1:((0:Int) < r.l.length)=True:=eq_true (by omega)
  have q3:(0 < r.l.length)=True:=eq_true (by omega)
  simp (maxSteps:=2000000) only [go_sem,jq,jj,jy,jv,jk,jx,q1,q3,hch,decide_true,Bool.not_true,Bool.not_false,Bool.true_or,Bool.or_true,Bool.or_false,Bool.false_or,Bool.and_true,Bool.true_and,Bool.and_false,Bool.false_and,Bool.false_eq_true,false_implies,true_and,and_true,implies_true,bne_self_eq_false,beq_self_eq_true,reduceCtorEq]
  exact Wk0
 | true =>
 refine zc9 rfl (fun hz=>?_) (fun hz=>?_)
 ·cases hz
 obtain ⟨_,hip,hcost,_,_⟩:=pl2 hsv
 obtain ⟨l1,l2,⟨l3,l3'⟩,⟨l4,l4'⟩,l5,l6⟩:=zNL hc hsv
 rw [← ech] at hip hcost l1 l2 l3 l3' l4 l4' l5 l6
 refine Wk ?_
 refine zkj (zM4 x a ch _ okx2 oka2 okch) rfl ?_
 rintro v h3 le3 ⟨p,rfl,ep,okp,_⟩
 have okx3:=Enc.mono (x:=x) le3 okx2
 have oka3:=oka2.mono le3
 have zp:Sz.sz (Con.con p)≤1048576:=by rw [ep];exact zM3 _ _ _
 rw [hca] at ep
 rw [← ep] at hip hcost l1 l2 l3 l3' l4 l4' l5 l6
 rw [hco] at hcost
 have hfm:(Con.con p:List POption).flatMap (·.pas)=p.l.flatMap (·.pas.l):=by rw [zkq];exact zLF
 rw [hfm] at l2 l3 l3' l6
 obtain ⟨T,hT⟩:∃ T,zKh (Con.con x.crew) (Con.con x.chart) x.fleet.l (p.l.flatMap (·.pas.l))=T:=⟨_,rfl⟩
 obtain ⟨P,hP⟩:∃ P,zBq (Con.con x.crew) (Con.con x.chart) x.fleet.l (zKE (Con.con p))=P:=⟨_,rfl⟩
 rw [hT] at l3 l3' l6
 rw [hP] at l4 l4'
 obtain ⟨_,hsf⟩:=zLO zp
 have hpm:=okp.max
 have le03:h.le h3:=Hp.le_trans (Hp.le_trans le1 le2) le3
 refine Wk ?_
 refine zl0 (ι:=Nat) (fun k=>⟨[(2,true,.c (.v (.bool false))),(3,true,.c (.p 0 0)),(4,true,.c (.v a.val)),(6,true,.c (.v (.int .i64 co))),(8,true,.c (.v p.val)),(10,true,.c (.s 1)),(57,true,.c (.v p.val)),(58,true,.c (.v (.int .i64 p.l.length))),(59,true,.c (.v (.int .i64 k)))],[(0,.box 40 [.v (.int .i64 x.forecast.tide.mean),.v x.forecast.tide.parts.val,.v x.forecast.surges.val,.v x.chart.points.val,.v x.chart.segments.val,.v x.fleet.val,.v (.int .i64 x.regime.gap),.v (.bool x.regime.noMeet),.v (.int .i64 x.crew.tugs),.v (.int .i64 x.crew.pilots),.v (.int .i64 x.crew.rest),.v x.crew.moves.val]),(1,.row 55 5 ((p.l.take k).flatMap (·.pas.l)).length (((p.l.take k).flatMap (·.pas.l)).flatMap Enc.enc))],h3,2⟩) (fun k=>k≤p.l.length) (fun k=>p.l.length - k) 0 (Nat.zero_le _) [0,1] ?_ ?_
 ·refine Evs ?_
  repeat' first|exact rfl|exact trivial|assumption|decide|refine And.intro ?_ ?_
 intro k hk
 refine Wk ?_
 refine zc9 rfl (fun hd=>?_) (fun hd=>?_)
 ·have hlt:=zjH hd
  have hop:p.l[k].pas.Ok h3:=(okp.el hlt).2.2.2
  have hall:h3.ldL p.l[k].pas.val 5=some (p.l[k].pas.l.flatMap Enc.enc):=Sl.Ok.all hop (by decide)
  have hfl2:(p.l.take (k+1)).flatMap (·.pas.l)=(p.l.take k).flatMap (·.pas.l) ++ p.l[k].pas.l:=by rw [List.take_succ_eq_append_getElem hlt,List.flatMap_append];simp
  have hle:((p.l.take (k+1)).flatMap (·.pas.l)).length≤(p.l.flatMap (·.pas.l)).length:=by
   rw [← List.take_append_drop (k+1) p.l,List.flatMap_append,List.take_append_drop,List.length_append];omega
  rw [hfl2,List.length_append] at hle
  repeat' first|refine Wa ?_|(simp (maxSteps:=2000000) only [go_sem,jq,jj,jy,jv,jk,jx,zkC okp hlt,okp.some hlt,hlt,jW];try rfl)|refine Wb ?_|fail
  simp only [hall,Option.isSome_some,Option.getD_some,← hfl2,← List.flatMap_append,← List.length_append]
  refine ⟨trivial,fun u hu=>zKm hu,by simp only [maxLen];rw [hfl2,List.length_append];omega,by rw [hfl2,List.length_append];omega,?_⟩
  refine Wk ?_
  refine ⟨k+1,[0,3],hlt,by omega,?_⟩
  refine Evs ?_
  repeat' first|exact zjB (zjA hlt (by omega))|exact rfl|exact trivial|assumption|decide|refine And.intro ?_ ?_
 have hge:=zjI hd
 have hke:k=p.l.length:=by omega
 rw [hke,List.take_length]
 refine zc6 ?_
 refine Evs ?_
 refine zlE 1 (p.l.flatMap (·.pas.l)) rfl rfl rfl rfl (by decide) (fun y hy=>?_) h3 (Hp.le_refl _) (Mines.flat (fun _=>rfl) (fun _=>trivial)) fun s h4 hsl oks le4 _=>?_
 ·obtain ⟨z,hz,hy⟩:=List.mem_flatMap.1 hy
  exact (okp.2.2.2.1 z hz).2.2.2.2.2.2.1 y hy
 rw [← hsl] at l2 l6 hT
 have okx4:=Enc.mono (x:=x) le4 okx3
 have oka4:=oka3.mono le4
 have okp4:=okp.mono le4
 have hsm:=oks.max
 have hsafe:∀ y ∈ s.l,zCr (Con.con x.forecast) (Con.con x.chart) x.fleet.l y=true:=fun y hy=>by
  rw [hsl] at hy
  obtain ⟨z,hz,hy⟩:=List.mem_flatMap.1 hy
  exact l1 (Con.con z) (by rw [zkq];exact List.mem_map.2 ⟨z,hz,rfl⟩) y (by rw [zLG];exact hy)
 refine Wk ?_
 refine zde (ι:=Nat) (fun k=>⟨[(2,true,.c (.v (.bool false))),(3,true,.c (.p 0 0)),(4,true,.c (.v a.val)),(6,true,.c (.v (.int .i64 co))),(8,true,.c (.v p.val)),(10,true,.c (.v s.val)),(68,true,.c (.v s.val)),(69,true,.c (.v (.int .i64 s.l.length))),(70,true,.c (.v (.int .i64 k)))],[(0,.box 40 [.v (.int .i64 x.forecast.tide.mean),.v x.forecast.tide.parts.val,.v x.forecast.surges.val,.v x.chart.points.val,.v x.chart.segments.val,.v x.fleet.val,.v (.int .i64 x.regime.gap),.v (.bool x.regime.noMeet),.v (.int .i64 x.crew.tugs),.v (.int .i64 x.crew.pilots),.v (.int .i64 x.crew.rest),.v x.crew.moves.val])],h4,1⟩) (fun k=>k≤s.l.length) (fun k=>s.l.length - k) 0 (Nat.zero_le _) ?_ ?_
 ·refine Evs ?_
  repeat' first|exact rfl|exact trivial|assumption|decide|refine And.intro ?_ ?_
 intro k hk
 refine Wk ?_
 refine zc9 rfl (fun hd=>?_) (fun hd=>?_)
 ·have hlt:=zjH hd
  have hii:(k:Int) < s.l.length:=by omega
  have hsf2:=hsafe _ (List.getElem_mem hlt)
  have hpk:zvI (Con.con x.chart) x.fleet.l s.l[k]=true:=by
   have h9:=hsf2
   rw [zCr,jJ] at h9;exact h9.1
  obtain ⟨_,pa2,pa3,pa4,pa5,pa6⟩:=zBk hpk
  have hq:=hpk
  rw [zvI,jJ,jJ,zvH,jJ,decide_eq_true_eq] at hq
  have hs0:0≤s.l[k].ship:=hq.2.1.1
  have hsi:s.l[k].ship.toNat < x.fleet.l.length:=by have:=hq.2.1.2.1;omega
  have hsii:s.l[k].ship < x.fleet.l.length:=hq.2.1.2.1
  repeat' first|refine Wa ?_|(simp (maxSteps:=2000000) only [go_sem,jq,jj,jy,jv,jk,jx,zky oks hlt,oks.some hlt,hlt,hii,jW,jY];try rfl)|refine Wb ?_|fail
  refine zhF (fun _=>zC5 x.forecast x.chart x.fleet s.l[k] _ okx4.1 okx4.2.1 okx4.2.2.1) ?_
  simp (maxSteps:=2000000) only [go_sem,jq,jj,jy,jv,jk,jx,hsf2,Bool.not_true,Bool.not_false,Bool.true_or,Bool.or_true,Bool.or_false,Bool.false_or,Bool.and_true,Bool.true_and,Bool.and_false,Bool.false_and,Bool.false_eq_true,false_implies,true_and,and_true,implies_true,bne_self_eq_false,beq_self_eq_true,reduceCtorEq]
  repeat' first|refine zc8 ?_|(refine zc5 ?_;simp (maxSteps:=2000000) only [go_sem,jq,jj,jy,jv,jk,jx])|refine zc3 ?_
  refine zc9 rfl (fun hz=>?_) (fun hz=>?_)
  ·cases hz
  refine Wk ?_
  refine zde (ι:=Int) (fun m=>⟨[(2,true,.c (.v (.bool false))),(3,true,.c (.p 0 0)),(4,true,.c (.v a.val)),(6,true,.c (.v (.int .i64 co))),(8,true,.c (.v p.val)),(10,true,.c (.v s.val)),(14,true,.c (.p 1 0)),(15,true,.c (.v (.int .i64 m))),(68,true,.c (.v s.val)),(69,true,.c (.v (.int .i64 s.l.length))),(70,true,.c (.v (.int .i64 k)))],[(0,.box 40 [.v (.int .i64 x.forecast.tide.mean),.v x.forecast.tide.parts.val,.v x.forecast.surges.val,.v x.chart.points.val,.v x.chart.segments.val,.v x.fleet.val,.v (.int .i64 x.regime.gap),.v (.bool x.regime.noMeet),.v (.int .i64 x.crew.tugs),.v (.int .i64 x.crew.pilots),.v (.int .i64 x.crew.rest),.v x.crew.moves.val]),(1,.box 55 [.v (.int .i64 s.l[k].ship),.v (.int .i64 s.l[k].seg),.v (.bool s.l[k].toward),.v (.int .i64 s.l[k].start),.v (.int .i64 s.l[k].fin)])],h4,2⟩) (fun m=>s.l[k].start≤m∧m≤s.l[k].fin+1) (fun m=>(s.l[k].fin+1 - m).toNat) s.l[k].start ⟨Int.le_refl _,by omega⟩ ?_ ?_
  ·exact Evc
   repeat' first|exact rfl|exact trivial|assumption|decide|refine And.intro ?_ ?_
  rintro m ⟨hm0,hm1⟩
  refine Wk ?_
  refine zc9 rfl (fun hd2=>?_) (fun hd2=>?_)
  case refine_2 =>
   refine Wk ?_
   refine ⟨k+1,by omega,by omega,zjB (zjA hlt (by omega))⟩
  have hd2:=of_decide_eq_true hd2
  have haf:zND (Con.con x.chart) s.l[k].seg x.fleet.l[s.l[k].ship.toNat] (zNE (Con.con x.forecast) m)=true:=by
   have h9:=zNF hsf2 hm0 hd2
   rwa [hget hsi] at h9
  refine Wk ?_
  refine znv rfl ?_
  refine U_t [0,2,4,6,10,12,1,3,5,7,11,8] rfl ?_
  simp (maxSteps:=2000000) only [go_sem,jq,jj,jy,jv,jk,jx,zk0 okx4.2.2.1 hsi,zlT okx4.2.2.1 hsi,okx4.2.2.1.some hsi,hsi,hsii,hs0,jW,Bool.not_true,Bool.not_false,Bool.true_or,Bool.or_true,Bool.or_false,Bool.false_or,Bool.and_true,Bool.true_and,Bool.and_false,Bool.false_and,Bool.false_eq_true,false_implies,true_and,and_true,implies_true,bne_self_eq_false,beq_self_eq_true,reduceCtorEq]
  refine U_t [9] rfl ?_
  simp (maxSteps:=2000000) only [go_sem,jq,jj,jy,jv,jk,jx,zk0 okx4.2.2.1 hsi,zlT okx4.2.2.1 hsi,okx4.2.2.1.some hsi,hsi,hsii,hs0,jW,Bool.not_true,Bool.not_false,Bool.true_or,Bool.or_true,Bool.or_false,Bool.false_or,Bool.and_true,Bool.true_and,Bool.and_false,Bool.false_and,Bool.false_eq_true,false_implies,true_and,and_true,implies_true,bne_self_eq_false,beq_self_eq_true,reduceCtorEq]
  refine U_1 13 0 [9,8,7,5,3,1,6,4,2,0] rfl rfl ?_
  simp (maxSteps:=2000000) only [go_sem,jq,jj,jy,jv,jk,jx,zk0 okx4.2.2.1 hsi,zlT okx4.2.2.1 hsi,okx4.2.2.1.some hsi,hsi,hsii,hs0,jW,Bool.not_true,Bool.not_false,Bool.true_or,Bool.or_true,Bool.or_false,Bool.false_or,Bool.and_true,Bool.true_and,Bool.and_false,Bool.false_and,Bool.false_eq_true,false_implies,true_and,and_true,implies_true,bne_self_eq_false,beq_self_eq_true,reduceCtorEq]
  refine zhF (fun _=>zNM x.forecast m _ okx4.1) ?_
  simp (maxSteps:=2000000) only [go_sem,jq,jj,jy,jv,jk,jx,zk0 okx4.2.2.1 hsi,zlT okx4.2.2.1 hsi,okx4.2.2.1.some hsi,hsi,hsii,hs0,jW,Bool.not_true,Bool.not_false,Bool.true_or,Bool.or_true,Bool.or_false,Bool.false_or,Bool.and_true,Bool.true_and,Bool.and_false,Bool.false_and,Bool.false_eq_true,false_implies,true_and,and_true,implies_true,bne_self_eq_false,beq_self_eq_true,reduceCtorEq]
  refine U_1 14 0 [] rfl rfl ?_
  simp (maxSteps:=2000000) only [go_sem,jq,jj,jy,jv,jk,jx,zk0 okx4.2.2.1 hsi,zlT okx4.2.2.1 hsi,okx4.2.2.1.some hsi,hsi,hsii,hs0,jW,Bool.not_true,Bool.not_false,Bool.true_or,Bool.or_true,Bool.or_false,Bool.false_or,Bool.and_true,Bool.true_and,Bool.and_false,Bool.false_and,Bool.false_eq_true,false_implies,true_and,and_true,implies_true,bne_self_eq_false,beq_self_eq_true,reduceCtorEq]
  refine zhF (fun _=>zNN x.chart s.l[k].seg x.fleet.l[s.l[k].ship.toNat] _ _ okx4.2.1 (okx4.2.2.1.el hsi)) ?_
  simp (maxSteps:=2000000) only [go_sem,jq,jj,jy,jv,jk,jx,haf,zk0 okx4.2.2.1 hsi,zlT okx4.2.2.1 hsi,okx4.2.2.1.some hsi,hsi,hsii,hs0,jW,Bool.not_true,Bool.not_false,Bool.true_or,Bool.or_true,Bool.or_false,Bool.false_or,Bool.and_true,Bool.true_and,Bool.and_false,Bool.false_and,Bool.false_eq_true,false_implies,true_and,and_true,implies_true,bne_self_eq_false,beq_self_eq_true,reduceCtorEq]
  refine U_t [15] rfl ?_
  simp (maxSteps:=2000000) only [go_sem,jq,jj,jy,jv,jk,jx,zk0 okx4.2.2.1 hsi,zlT okx4.2.2.1 hsi,okx4.2.2.1.some hsi,hsi,hsii,hs0,jW,Bool.not_true,Bool.not_false,Bool.true_or,Bool.or_true,Bool.or_false,Bool.false_or,Bool.and_true,Bool.true_and,Bool.and_false,Bool.false_and,Bool.false_eq_true,false_implies,true_and,and_true,implies_true,bne_self_eq_false,beq_self_eq_true,reduceCtorEq]
  refine U_d ?_
  repeat' first|refine zc8 ?_|(refine zc5 ?_;simp (maxSteps:=2000000) only [go_sem,jq,jj,jy,jv,jk,jx])|refine zc3 ?_
  refine zc9 rfl (fun hz=>?_) (fun hz=>?_)
  ·cases hz
  have hwm:IntKind.i64.wrap (m+1)=m+1:=zjz (by omega)
  refine Wk ?_
  refine ⟨m+1,⟨by omega,by omega⟩,by omega,?_⟩
  simp (maxSteps:=2000000) only [go_sem,jq,jj,jy,jv,jk,jx,hwm]
  repeat' first|exact rfl|exact trivial|assumption|decide|refine And.intro ?_ ?_
 refine Wk ?_
 refine zhF (fun _=>zKj x.crew x.chart x.fleet s _ okx4.2.2.2.2 okx4.2.1 okx4.2.2.1 oks) ?_
 have hcp:(Con.con s:List DPassage)=s.l:=List.map_id _
 simp (maxSteps:=2000000) only [go_sem,jq,jj,jy,jv,jk,jx,hfl,hcp,hT]
 repeat' first|refine zc8 ?_|(refine zc5 ?_;simp (maxSteps:=2000000) only [go_sem,jq,jj,jy,jv,jk,jx])|refine zc3 ?_
 refine znv rfl ?_
 refine U_t [0,2,4,6,1,3,5] rfl ?_
 refine Evs ?_
 refine U_1 7 0 [5,3,1,4,2,0] rfl rfl ?_
 refine Evs ?_
 refine zkj (zKH p _ okp4 zp) rfl ?_
 rintro v h5 le5 ⟨cs,rfl,ecs,okcs,_⟩
 have okx5:=Enc.mono (x:=x) le5 okx4
 have zcs:Sz.sz (Con.con cs)≤1048576:=by rw [ecs];exact zKI _ zp
 refine Evs ?_
 refine U_1 8 0 [] rfl rfl ?_
 refine Evs ?_
 refine zhF (fun _=>zKo x.crew x.chart x.fleet cs _ okx5.2.2.2.2 okx5.2.1 okx5.2.2.1 okcs zcs) ?_
 simp (maxSteps:=2000000) only [go_sem,jq,jj,jy,jv,jk,jx,ecs,hfl,hP]
 refine U_t [9] rfl ?_
 refine Evs ?_
 refine U_d ?_
 have oka5:=oka4.mono le5
 have okp5:=okp4.mono le5
 have oks5:=oks.mono le5
 have t1:(0≤T)=True:=eq_true l3
 have t2:(T≤x.crew.tugs)=True:=eq_true l3'
 have t3:(0≤P)=True:=eq_true l4
 have t4:(P≤x.crew.pilots)=True:=eq_true l4'
 have t5:(co == co)=true:=beq_self_eq_true _
 have hclr:=l2
 have hcs:=l5
 repeat' first|refine zc8 ?_|(refine zc5 ?_;simp (maxSteps:=2000000) only [go_sem,jq,jj,jy,jv,jk,jx])|refine zc3 ?_
 refine znv rfl ?_
 refine U_t [0,2,4,1,3] rfl ?_
 simp (maxSteps:=2000000) only [go_sem,jq,jj,jy,jv,jk,jx,t1,t2,t3,t4,t5,decide_true,Bool.not_true,Bool.not_false,Bool.true_or,Bool.or_true,Bool.or_false,Bool.false_or,Bool.and_true,Bool.true_and,Bool.and_false,Bool.false_and,Bool.false_eq_true,false_implies,true_and,and_true,implies_true,bne_self_eq_false,beq_self_eq_true,reduceCtorEq]
 refine U_1 5 0 [] rfl rfl ?_
 simp (maxSteps:=2000000) only [go_sem,jq,jj,jy,jv,jk,jx,t1,t2,t3,t4,t5,decide_true,Bool.not_true,Bool.not_false,Bool.true_or,Bool.or_true,Bool.or_false,Bool.false_or,Bool.and_true,Bool.true_and,Bool.and_false,Bool.false_and,Bool.false_eq_true,false_implies,true_and,and_true,implies_true,bne_self_eq_false,beq_self_eq_true,reduceCtorEq]
 refine zhF (fun _=>zNP x.chart x.regime s _ okx5.2.1 okx5.2.2.2.1 oks5) ?_
 simp (maxSteps:=2000000) only [go_sem,jq,jj,jy,jv,jk,jx,hclr,t1,t2,t3,t4,t5,decide_true,Bool.not_true,Bool.not_false,Bool.true_or,Bool.or_true,Bool.or_false,Bool.false_or,Bool.and_true,Bool.true_and,Bool.and_false,Bool.false_and,Bool.false_eq_true,false_implies,true_and,and_true,implies_true,bne_self_eq_false,beq_self_eq_true,reduceCtorEq]
 refine U_t [6,7,8,9] rfl ?_
 simp (maxSteps:=2000000) only [go_sem,jq,jj,jy,jv,jk,jx,t1,t2,t3,t4,t5,decide_true,Bool.not_true,Bool.not_false,Bool.true_or,Bool.or_true,Bool.or_false,Bool.false_or,Bool.and_true,Bool.true_and,Bool.and_false,Bool.false_and,Bool.false_eq_true,false_implies,true_and,and_true,implies_true,bne_self_eq_false,beq_self_eq_true,reduceCtorEq]
 refine U_1 10 0 [] rfl rfl ?_
 simp (maxSteps:=2000000) only [go_sem,jq,jj,jy,jv,jk,jx,t1,t2,t3,t4,t5,decide_true,Bool.not_true,Bool.not_false,Bool.true_or,Bool.or_true,Bool.or_false,Bool.false_or,Bool.and_true,Bool.true_and,Bool.and_false,Bool.false_and,Bool.false_eq_true,false_implies,true_and,and_true,implies_true,bne_self_eq_false,beq_self_eq_true,reduceCtorEq]
 refine zhF (fun _=>zLP x a p _ okx5 oka5 okp5 zp) ?_
 simp (maxSteps:=2000000) only [go_sem,jq,jj,jy,jv,jk,jx,hca,hip,t1,t2,t3,t4,t5,decide_true,Bool.not_true,Bool.not_false,Bool.true_or,Bool.or_true,Bool.or_false,Bool.false_or,Bool.and_true,Bool.true_and,Bool.and_false,Bool.false_and,Bool.false_eq_true,false_implies,true_and,and_true,implies_true,bne_self_eq_false,beq_self_eq_true,reduceCtorEq]
 refine U_t [11,12,13,14] rfl ?_
 simp (maxSteps:=2000000) only [go_sem,jq,jj,jy,jv,jk,jx,t1,t2,t3,t4,t5,decide_true,Bool.not_true,Bool.not_false,Bool.true_or,Bool.or_true,Bool.or_false,Bool.false_or,Bool.and_true,Bool.true_and,Bool.and_false,Bool.false_and,Bool.false_eq_true,false_implies,true_and,and_true,implies_true,bne_self_eq_false,beq_self_eq_true,reduceCtorEq]
 refine U_1 15 0 [] rfl rfl ?_
 simp (maxSteps:=2000000) only [go_sem,jq,jj,jy,jv,jk,jx,t1,t2,t3,t4,t5,decide_true,Bool.not_true,Bool.not_false,Bool.true_or,Bool.or_true,Bool.or_false,Bool.false_or,Bool.and_true,Bool.true_and,Bool.and_false,Bool.false_and,Bool.false_eq_true,false_implies,true_and,and_true,implies_true,bne_self_eq_false,beq_self_eq_true,reduceCtorEq]
 refine zhF (fun _=>zJz p _ okp5) ?_
 simp (maxSteps:=2000000) only [go_sem,jq,jj,jy,jv,jk,jx,hcost,t1,t2,t3,t4,t5,decide_true,Bool.not_true,Bool.not_false,Bool.true_or,Bool.or_true,Bool.or_false,Bool.false_or,Bool.and_true,Bool.true_and,Bool.and_false,Bool.false_and,Bool.false_eq_true,false_implies,true_and,and_true,implies_true,bne_self_eq_false,beq_self_eq_true,reduceCtorEq]
 refine U_t [16,17,18,19,20,21,22,23,24,25,26,27] rfl ?_
 simp (maxSteps:=2000000) only [go_sem,jq,jj,jy,jv,jk,jx,t1,t2,t3,t4,t5,decide_true,Bool.not_true,Bool.not_false,Bool.true_or,Bool.or_true,Bool.or_false,Bool.false_or,Bool.and_true,Bool.true_and,Bool.and_false,Bool.false_and,Bool.false_eq_true,false_implies,true_and,and_true,implies_true,bne_self_eq_false,beq_self_eq_true,reduceCtorEq]
 refine U_t [28,29,30,31,32,33,34,35,36,37,38,39] rfl ?_
 simp (maxSteps:=2000000) only [go_sem,jq,jj,jy,jv,jk,jx,t1,t2,t3,t4,t5,decide_true,Bool.not_true,Bool.not_false,Bool.true_or,Bool.or_true,Bool.or_false,Bool.false_or,Bool.and_true,Bool.true_and,Bool.and_false,Bool.false_and,Bool.false_eq_true,false_implies,true_and,and_true,implies_true,bne_self_eq_false,beq_self_eq_true,reduceCtorEq]
 refine U_t [40,41,43,45,47,42,44,46] rfl ?_
 simp (maxSteps:=2000000) only [go_sem,jq,jj,jy,jv,jk,jx,t1,t2,t3,t4,t5,decide_true,Bool.not_true,Bool.not_false,Bool.true_or,Bool.or_true,Bool.or_false,Bool.false_or,Bool.and_true,Bool.true_and,Bool.and_false,Bool.false_and,Bool.false_eq_true,false_implies,true_and,and_true,implies_true,bne_self_eq_false,beq_self_eq_true,reduceCtorEq]
 refine U_1 48 0 [46,44,42,45,43,41] rfl rfl ?_
 simp (maxSteps:=2000000) only [go_sem,jq,jj,jy,jv,jk,jx,t1,t2,t3,t4,t5,decide_true,Bool.not_true,Bool.not_false,Bool.true_or,Bool.or_true,Bool.or_false,Bool.false_or,Bool.and_true,Bool.true_and,Bool.and_false,Bool.false_and,Bool.false_eq_true,false_implies,true_and,and_true,implies_true,bne_self_eq_false,beq_self_eq_true,reduceCtorEq]
 refine zkj (zKH p _ okp5 zp) rfl ?_
 rintro v h6 le6 ⟨cs2,rfl,ecs2,okcs2,_⟩
 have okx6:=Enc.mono (x:=x) le6 okx5
 have oks6:=oks5.mono le6
 have zcs2:Sz.sz (Con.con cs2)≤1048576:=by rw [ecs2];exact zKI _ zp
 refine Evs ?_
 refine U_1 49 0 [] rfl rfl ?_
 simp (maxSteps:=2000000) only [go_sem,jq,jj,jy,jv,jk,jx,t1,t2,t3,t4,t5,decide_true,Bool.not_true,Bool.not_false,Bool.true_or,Bool.or_true,Bool.or_false,Bool.false_or,Bool.and_true,Bool.true_and,Bool.and_false,Bool.false_and,Bool.false_eq_true,false_implies,true_and,and_true,implies_true,bne_self_eq_false,beq_self_eq_true,reduceCtorEq]
 refine zhF (fun _=>zKq x.crew x.chart x.fleet cs2 _ okx6.2.2.2.2 okx6.2.1 okx6.2.2.1 okcs2 zcs2) ?_
 simp (maxSteps:=2000000) only [go_sem,jq,jj,jy,jv,jk,jx,ecs2,hfl,hcs,t1,t2,t3,t4,t5,decide_true,Bool.not_true,Bool.not_false,Bool.true_or,Bool.or_true,Bool.or_false,Bool.false_or,Bool.and_true,Bool.true_and,Bool.and_false,Bool.false_and,Bool.false_eq_true,false_implies,true_and,and_true,implies_true,bne_self_eq_false,beq_self_eq_true,reduceCtorEq]
 refine U_t [50,51,52,54,56,59,53,55] rfl ?_
 simp (maxSteps:=2000000) only [go_sem,jq,jj,jy,jv,jk,jx,t1,t2,t3,t4,t5,decide_true,Bool.not_true,Bool.not_false,Bool.true_or,Bool.or_true,Bool.or_false,Bool.false_or,Bool.and_true,Bool.true_and,Bool.and_false,Bool.false_and,Bool.false_eq_true,false_implies,true_and,and_true,implies_true,bne_self_eq_false,beq_self_eq_true,reduceCtorEq]
 refine U_1 57 0 [] rfl rfl ?_
 simp (maxSteps:=2000000) only [go_sem,jq,jj,jy,jv,jk,jx,t1,t2,t3,t4,t5,decide_true,Bool.not_true,Bool.not_false,Bool.true_or,Bool.or_true,Bool.or_false,Bool.false_or,Bool.and_true,Bool.true_and,Bool.and_false,Bool.false_and,Bool.false_eq_true,false_implies,true_and,and_true,implies_true,bne_self_eq_false,beq_self_eq_true,reduceCtorEq]
 refine zkj (zKf x.chart x.fleet s _ okx6.2.1 okx6.2.2.1 oks6) rfl ?_
 rintro v h7 le7 ⟨du,rfl,edu,okdu,_⟩
 have hdl:(T≤(du.l.length:Int))=True:=eq_true (by
  have h9:(Con.con du:List DDuty).length=du.l.length:=by rw [zkq,List.length_map]
  rw [edu,hfl,hcp] at h9
  rw [← h9];exact l6)
 simp (maxSteps:=2000000) only [go_sem,jq,jj,jy,jv,jk,jx,hdl,t1,t2,t3,t4,t5,decide_true,Bool.not_true,Bool.not_false,Bool.true_or,Bool.or_true,Bool.or_false,Bool.false_or,Bool.and_true,Bool.true_and,Bool.and_false,Bool.false_and,Bool.false_eq_true,false_implies,true_and,and_true,implies_true,bne_self_eq_false,beq_self_eq_true,reduceCtorEq]
 refine U_t [58,60,61,62] rfl ?_
 simp (maxSteps:=2000000) only [go_sem,jq,jj,jy,jv,jk,jx,t1,t2,t3,t4,t5,decide_true,Bool.not_true,Bool.not_false,Bool.true_or,Bool.or_true,Bool.or_false,Bool.false_or,Bool.and_true,Bool.true_and,Bool.and_false,Bool.false_and,Bool.false_eq_true,false_implies,true_and,and_true,implies_true,bne_self_eq_false,beq_self_eq_true,reduceCtorEq]
 refine U_d ?_
 refine Wk ?_
 exact congrArg Value.bool (decide_eq_true (of_eq_true hdl))
open Go Go.SL Go.RowKit Go.ChangeShapes Go.WideShapes Go.ChangeAt Go.Deep
theorem Tryz.own:ownKnob Tryz.prog.godebug=none:=by kernel_rfl
theorem Tryz.laidOut:laidOutB jV=true:=by kernel_rfl
def zNY (x:zFc) (w:List POption→Int):List (List POption)→List POption→List Nat→List (List Nat × Int)
 | [],p,ch=>[(ch,w p)]
 | l :: L,p,ch=>(List.range l.length).flatMap fun k=>if zK7 x p (l.getD k zJX)=true then zNY x w L (p ++ [l.getD k zJX]) (ch ++ [k]) else []
theorem zNZ {x:zFc} {w:List POption→Int} {P:POption→Prop} (hw:∀ p o,(∀ y ∈ p,P y)→P o→w p≤w (p ++ [o])):∀ {L:List (List POption)} {p:List POption} {ch:List Nat},(∀ y ∈ p,P y)→(∀ l ∈ L,∀ o ∈ l,P o)→∀ y ∈ zNY x w L p ch,w p≤y.2
 | [],p,ch,_,_,y,hy=>by rw [zNY,List.mem_singleton] at hy;rw [hy];exact Int.le_refl _
 | l :: L,p,ch,hp,h,y,hy=>by
  rw [zNY] at hy
  obtain ⟨k,hk,hy⟩:=List.mem_flatMap.1 hy
  have hk:=List.mem_range.1 hk
  split at hy
  ·have ho:=h l (List.mem_cons_self ..) _ (zLk hk)
   have:=zNZ hw (fun z hz=>by
    rcases List.mem_append.1 hz with hz|hz
    ·exact hp z hz
    ·rw [List.mem_singleton.1 hz];exact ho) (fun l hl=>h l (List.mem_cons_of_mem _ hl)) y hy
   exact Int.le_trans (hw _ _ hp ho) this
  ·cases hy
theorem zN0 {x:zFc} {w:List POption→Int} {P:POption→Prop} (hw:∀ p o,(∀ y ∈ p,P y)→P o→w p≤w (p ++ [o])):∀ {L:List (List POption)} {p:List POption} {ch:List Nat} {st:BSt},(∀ y ∈ p,P y)→(∀ l ∈ L,∀ o ∈ l,P o)→srW x w L p ch st=(zNY x w L p ch).foldl upd st
 | [],p,ch,st,_,_=>by
  rw [srW,zNY,List.foldl_cons,List.foldl_nil]
  cases st with
  | none=>rfl
  | some s =>
   obtain ⟨b,m⟩:=s
   rw [cut,upd]
   by_cases hm:m≤w p
   ·rw [if_pos (decide_eq_true hm),if_neg (by simp only;omega)]
   ·rw [if_neg (by rw [decide_eq_true_eq];exact hm),if_pos (by simp only;omega)]
 | l :: L,p,ch,st,hp,h=>by
  have hge:=zNZ (x:=x) hw (ch:=ch) hp h
  rw [srW]
  split
  ·rename_i hc
   cases st with
   | none=>cases hc
   | some s =>
    obtain ⟨b,m⟩:=s
    have hm:m≤w p:=of_decide_eq_true hc
    exact (zLl fun y hy=>Int.le_trans hm (hge y hy)).symm
  ·rw [zNY,zLm]
   refine zLn fun k hk st=>?_
   split
   ·have ho:=h l (List.mem_cons_self ..) _ (zLk (List.mem_range.1 hk))
    exact zN0 hw (fun z hz=>by
     rcases List.mem_append.1 hz with hz|hz
     ·exact hp z hz
     ·rw [List.mem_singleton.1 hz];exact ho) fun l hl=>h l (List.mem_cons_of_mem _ hl)
   ·rfl
theorem zN1 {x:zFc} {w:List POption→Int}:∀ {L:List (List POption)} {p:List POption} {ch:List Nat} {y:List Nat × Int},y ∈ zNY x w L p ch ↔ ∃ ks,inR L ks∧zL0 x p (picks L ks)∧y=(ch ++ ks,w (p ++ picks L ks))
 | [],p,ch,y=>by
  rw [zNY,List.mem_singleton]
  constructor
  ·rintro rfl
   exact ⟨[],trivial,trivial,by rw [picks.eq_def];simp⟩
  ·rintro ⟨ks,h1,h2,rfl⟩
   cases ks with
   | nil=>rw [picks.eq_def];simp
   | cons k ks=>exact h1.elim
 | l :: L,p,ch,y=>by
  rw [zNY,List.mem_flatMap]
  constructor
  ·rintro ⟨k,hk,hy⟩
   split at hy
   ·rename_i hf
    obtain ⟨ks,h1,h2,rfl⟩:=zN1.1 hy
    exact ⟨k :: ks,⟨List.mem_range.1 hk,h1⟩,⟨hf,h2⟩,by rw [picks,List.append_assoc,List.append_assoc];rfl⟩
   ·cases hy
  ·rintro ⟨ks,h1,h2,rfl⟩
   cases ks with
   | nil=>exact h1.elim
   | cons k ks =>
    obtain ⟨h1,h3⟩:=h1
    rw [picks] at h2
    refine ⟨k,List.mem_range.2 h1,?_⟩
    rw [if_pos h2.1]
    exact zN1.2 ⟨ks,h3,h2.2,by rw [picks,List.append_assoc,List.append_assoc];rfl⟩
theorem zN2 {x:zFc} {w:List POption→Int} {P:POption→Prop} (hw:∀ p o,(∀ y ∈ p,P y)→P o→w p≤w (p ++ [o])) {L:List (List POption)} (hL:∀ l ∈ L,∀ o ∈ l,P o) :
  (srW x w L [] [] none=none∧∀ ks,inR L ks→¬ zL0 x [] (picks L ks)) ∨
  (∃ ks,srW x w L [] [] none=some (ks,w (picks L ks))∧inR L ks∧zL0 x [] (picks L ks)∧∀ ks',inR L ks'→zL0 x [] (picks L ks')→w (picks L ks)≤w (picks L ks')):=by
 rw [zN0 hw (fun y hy=>by cases hy) hL]
 cases hr:(zNY x w L [] []).foldl upd none with
 | none =>
  refine .inl ⟨rfl,fun ks h1 h2=>?_⟩
  have h4:(([]:List Nat) ++ ks,w ([] ++ picks L ks)) ∈ zNY x w L [] []:=zN1.2 ⟨ks,h1,h2,rfl⟩
  rw [(zL3 hr).1] at h4;cases h4
 | some y =>
  obtain ⟨h1,h2,_⟩:=zL2 hr
  rcases h1 with h1|h1
  ·obtain ⟨ks,h3,h4,e⟩:=zN1.1 h1
   rw [List.nil_append,List.nil_append] at e
   refine .inr ⟨ks,by rw [e],h3,h4,fun ks' h5 h6=>?_⟩
   have h7:(([]:List Nat) ++ ks',w ([] ++ picks L ks')) ∈ zNY x w L [] []:=zN1.2 ⟨ks',h5,h6,rfl⟩
   have:=h2 _ h7
   rw [e] at this
   exact this
  ·cases h1
def zN3 (o:POption):Prop:=0≤o.start∧o.start≤2880
theorem zN4 {a b:POption} (ha:zN3 a) (hb:zN3 b):(a=b∧zuw a b=0)∨(a ≠ b∧60≤zuw a b∧zuw a b≤2940):=by
 unfold zN3 at ha hb
 by_cases h:a=b
 ·exact .inl ⟨h,by rw [zuw,if_pos h]⟩
 ·refine .inr ⟨h,?_⟩
  rw [zuw,if_neg h,zjz (by omega)]
  omega
def psK (a b:List POption):Nat→Int
 | 0=>0
 | k+1=>psK a b k+zuw (a.getD k zJX) (b.getD k zJX)
theorem zN5 {a b:List POption} (ha:∀ o ∈ a,zN3 o) (hb:∀ o ∈ b,zN3 o):∀ {k:Nat},k≤a.length→k≤b.length→0≤psK a b k∧psK a b k≤2940 * (k:Int)∧60 * ((k:Int) - (zJE a b k).length)≤psK a b k
 | 0,_,_=>⟨Int.le_refl _,by show (0:Int)≤2940 * 0;omega,by show 60 * ((0:Int) - 0)≤0;omega⟩
 | k+1,h1,h2=>by
  obtain ⟨i1,i2,i3⟩:=zN5 ha hb (k:=k) (by omega) (by omega)
  have ea:a.getD k zJX=a[k]:=by rw [List.getD_eq_getElem?_getD,List.getElem?_eq_getElem (by omega)];rfl
  have eb:b.getD k zJX=b[k]:=by rw [List.getD_eq_getElem?_getD,List.getElem?_eq_getElem (by omega)];rfl
  rw [psK,ea,eb,zJE,List.getElem?_eq_getElem (show k < a.length by omega),List.getElem?_eq_getElem (show k < b.length by omega)]
  rcases zN4 (ha _ (List.getElem_mem (show k < a.length by omega))) (hb _ (List.getElem_mem (show k < b.length by omega))) with ⟨e,hp⟩|⟨e,hp1,hp2⟩
  ·rw [hp,if_pos (by rw [e]),List.length_append,List.length_singleton]
   omega
  ·rw [if_neg (by intro h;exact e (Option.some.inj h))]
   omega
theorem zN6 {a b:List POption} (ha:∀ o ∈ a,zN3 o) (hb:∀ o ∈ b,zN3 o) (h6:a.length≤100):zJB a b=psK a b (min a.length b.length):=by
 have key:∀ k,k≤(a.zip b).length→((a.zip b).take k).foldl (fun t p=>IntKind.i64.wrap (t+zuw p.1 p.2)) 0=psK a b k:=fun k=>by
  induction k with
  | zero=>intro _;rfl
  | succ k ih =>
   intro hk
   have hk2:=hk
   rw [List.length_zip] at hk2
   obtain ⟨i1,i2,_⟩:=zN5 ha hb (k:=k+1) (by omega) (by omega)
   rw [List.take_succ_eq_append_getElem (by omega),List.foldl_append,ih (by omega),List.foldl_cons,List.foldl_nil,List.getElem_zip]
   have ea:a.getD k zJX=a[k]:=by rw [List.getD_eq_getElem?_getD,List.getElem?_eq_getElem (by omega)];rfl
   have eb:b.getD k zJX=b[k]:=by rw [List.getD_eq_getElem?_getD,List.getElem?_eq_getElem (by omega)];rfl
   rw [psK,ea,eb] at i1 i2 ⊢
   show IntKind.i64.wrap (psK a b k+zuw a[k] b[k])=_
   exact zjz (by omega)
 have:=key _ (Nat.le_refl _)
 rw [List.take_length,List.length_zip] at this
 exact this
theorem zN7 {a b:List POption} {o:POption}:∀ {k:Nat},k≤b.length→psK a (b ++ [o]) k=psK a b k
 | 0,_=>rfl
 | k+1,h=>by
  rw [psK,psK,zN7 (by omega),List.getD_eq_getElem?_getD,List.getD_eq_getElem?_getD (l:=b ++ [o]),List.getElem?_append_left (by omega),← List.getD_eq_getElem?_getD,← List.getD_eq_getElem?_getD]
theorem zN8 {a:List POption} (ha:∀ o ∈ a,zN3 o) (h6:a.length≤100) (p:List POption) (o:POption) (hp:∀ y ∈ p,zN3 y) (ho:zN3 o):zJB a p≤zJB a (p ++ [o]):=by
 have hp2:∀ y ∈ p ++ [o],zN3 y:=fun z hz=>by
  rcases List.mem_append.1 hz with hz|hz
  ·exact hp z hz
  ·rw [List.mem_singleton.1 hz];exact ho
 rw [zN6 ha hp h6,zN6 ha hp2 h6,List.length_append,List.length_singleton]
 rcases Nat.lt_or_ge p.length a.length with h|h
 ·rw [show min a.length p.length=p.length by omega,show min a.length (p.length+1)=p.length+1 by omega,psK,zN7 (Nat.le_refl _)]
  have eb:(p ++ [o]).getD p.length zJX=o:=by simp
  have ea:a.getD p.length zJX=a[p.length]:=by rw [List.getD_eq_getElem?_getD,List.getElem?_eq_getElem h];rfl
  rw [ea,eb]
  rcases zN4 (ha _ (List.getElem_mem h)) ho with ⟨_,e⟩|⟨_,e,_⟩ <;> omega
 ·rw [show min a.length p.length=a.length by omega,show min a.length (p.length+1)=a.length by omega,zN7 (by omega)]
  exact Int.le_refl _
theorem zN9 {a b:List POption} (ha:∀ o ∈ a,zN3 o) (hb:∀ o ∈ b,zN3 o):∀ {k:Nat},k≤a.length→k≤b.length→psK a b k≤0→∀ i,i < k→a.getD i zJX=b.getD i zJX
 | 0,_,_,_,i,hi=>absurd hi (Nat.not_lt_zero i)
 | k+1,h1,h2,h,i,hi=>by
  obtain ⟨i1,_,_⟩:=zN5 ha hb (k:=k) (by omega) (by omega)
  have ea:a.getD k zJX=a[k]:=by rw [List.getD_eq_getElem?_getD,List.getElem?_eq_getElem (by omega)];rfl
  have eb:b.getD k zJX=b[k]:=by rw [List.getD_eq_getElem?_getD,List.getElem?_eq_getElem (by omega)];rfl
  rw [psK] at h
  have hc:=zN4 (ha _ (List.getElem_mem (show k < a.length by omega))) (hb _ (List.getElem_mem (show k < b.length by omega)))
  rw [← ea,← eb] at hc
  rcases hc with ⟨e,hp⟩|⟨e,hp1,hp2⟩
  ·rcases Nat.lt_or_ge i k with h3|h3
   ·exact zN9 ha hb (by omega) (by omega) (by omega) i h3
   ·obtain rfl:i=k:=by omega
    exact e
  ·omega
theorem zOa {a:List POption}:∀ {k:Nat},psK a a k=0
 | 0=>rfl
 | k+1=>by rw [psK,zOa,zuw,if_pos rfl];rfl
def zOb (x:zFc) (calls:List DCall) (old:List POption):List (List POption):=(List.range calls.length).map fun i=>zBO x (calls.getD i dC) (old.getD i zJX)
noncomputable def zOc (x:zFc) (calls:List DCall) (old:List POption):List POption × Int × Bool:=open Classical in
 if zJJ x calls=true∧old.length=calls.length∧(∀ o ∈ old,zN3 o) then (match srW x (zJB old) (zOb x calls old) [] [] none with
  | none=>([],0,false)
  | some (ch,c)=>(picks (zOb x calls old) ch,c,true)) else ([],0,false)
theorem zOd {x:zFc} {calls:List DCall} {old:List POption}:(zOb x calls old).length=calls.length:=by rw [zOb,List.length_map,List.length_range]
theorem zOe {x:zFc} {calls:List DCall} {old:List POption} {i:Nat} (hi:i < calls.length):(zOb x calls old).getD i []=zBO x (calls.getD i dC) (old.getD i zJX):=by
 rw [zOb,List.getD_eq_getElem?_getD,List.getElem?_map,List.getElem?_range hi];rfl
theorem zOf {x:DHarbour} {a:DCall} {o:POption} (h:zyW (Con.con x) a o=true):zN3 o:=by
 rw [zyW,jJ] at h
 have h1:=h.1
 rw [zyR] at h1
 split at h1
 ·rename_i hc
  rw [jJ,jJ,jJ,In,jJ,decide_eq_true_eq,decide_eq_true_eq] at hc
  obtain ⟨_,_,_,_,_,_,_,_,_,_,hr0,hr1,hr2,hr3⟩:=zyE hc.1.1.1
  unfold zN3
  omega
 ·cases h1
theorem zOg {x:DHarbour} {a:DCall} {o y:POption} (h:y ∈ zBO (Con.con x) a o):zyW (Con.con x) a y=true:=by
 rw [zBO] at h
 split at h
 ·rcases List.mem_append.1 h with h|h
  ·split at h
   ·rename_i hi
    rw [List.mem_singleton.1 h];exact hi
   ·cases h
  ·exact zB8 (List.mem_filter.1 h).1
 ·cases h
theorem zOh {x:DHarbour} {calls:List DCall} {old:List POption}:∀ l ∈ zOb (Con.con x) calls old,∀ o ∈ l,zN3 o:=fun l hl o ho=>by
 rw [zOb] at hl
 obtain ⟨i,_,rfl⟩:=List.mem_map.1 hl
 exact zOf (zOg ho)
theorem zOi {x:zFc} {calls:List DCall} {old:List POption} {ks:List Nat} (h:inR (zOb x calls old) ks) {i:Nat} (hi:i < calls.length):(picks (zOb x calls old) ks).getD i zJX ∈ zBO x (calls.getD i dC) (old.getD i zJX):=by
 obtain ⟨h1,h2⟩:=zL6 h i (by rw [zOd];exact hi)
 rw [h2]
 rw [zOe hi] at h1 ⊢
 exact zLk h1
theorem zOj {x:DHarbour} {calls:List DCall} {old:List POption} {ks:List Nat} (h:inR (zOb (Con.con x) calls old) ks):∀ o ∈ picks (zOb (Con.con x) calls old) ks,zN3 o:=fun o ho=>by
 obtain ⟨i,hi,rfl⟩:=List.getElem_of_mem ho
 have hl:=zL5 h
 rw [zOd] at hl
 have:=zOi h (i:=i) (by omega)
 rw [List.getD_eq_getElem?_getD (l:=picks (zOb (Con.con x) calls old) ks),List.getElem?_eq_getElem hi] at this
 exact zOf (zOg this)
theorem zOk {x:DHarbour} {calls:List DCall} {old:List POption} (hc:zJJ (Con.con x) calls=true) (ho:old.length=calls.length) (hd:∀ o ∈ old,zN3 o) :
  ((zOc (Con.con x) calls old).2.2=false∧(zOc (Con.con x) calls old).1=[]∧(zOc (Con.con x) calls old).2.1=0) ∨
  ((zOc (Con.con x) calls old).2.2=true∧zK8 (Con.con x) calls (zOc (Con.con x) calls old).1=true∧zJB old (zOc (Con.con x) calls old).1=(zOc (Con.con x) calls old).2.1 ∧
   zKx old (zOc (Con.con x) calls old).1+(zJF old (zOc (Con.con x) calls old).1).length=calls.length∧60 * zKx old (zOc (Con.con x) calls old).1≤(zOc (Con.con x) calls old).2.1 ∧
   (zOc (Con.con x) calls old).1.length=calls.length∧0≤zKx old (zOc (Con.con x) calls old).1∧zKx old (zOc (Con.con x) calls old).1≤6):=by
 have h6:=zMj hc
 rw [zOc,if_pos ⟨hc,ho,hd⟩]
 rcases zN2 (x:=Con.con x) (w:=zJB old) (zN8 hd (by omega)) (zOh (x:=x) (calls:=calls) (old:=old)) with ⟨h1,_⟩|⟨ks,h1,h2,h3,_⟩
 ·rw [h1];exact .inl ⟨rfl,rfl,rfl⟩
 ·rw [h1]
  have hl:=zL5 h2
  rw [zOd] at hl
  have hk:=zN5 hd (zOj h2) (k:=calls.length) (by omega) (by omega)
  have hg:=zJG old (picks (zOb (Con.con x) calls old) ks) calls.length
  have hm:min old.length (picks (zOb (Con.con x) calls old) ks).length=calls.length:=by omega
  have hM:max old.length (picks (zOb (Con.con x) calls old) ks).length=calls.length:=by omega
  have hps:=zN6 hd (zOj h2) (by omega)
  rw [hm] at hps
  refine .inr ⟨rfl,?_,rfl,?_,?_,hl,?_,?_⟩
  ·show zK8 (Con.con x) calls (picks (zOb (Con.con x) calls old) ks)=true
   rw [zK8,hc,Bool.true_and,jJ,decide_eq_true_eq,decide_eq_true_eq]
   refine ⟨hl,fun i hi=>?_⟩
   rw [ipAt,jJ]
   refine ⟨zOg (zOi h2 hi),?_⟩
   have:=zL8.1 h3 i (by omega)
   rwa [List.nil_append] at this
  all_goals
   dsimp only
   rw [zKx,zJF,hm,hM]
   try rw [hps]
   omega
theorem zOl {x:DHarbour} {calls:List DCall} (hc:zJJ (Con.con x) calls=true) (hs:(zLC (Con.con x) calls).2.2=true) {old:List POption} (he:(zKK (Con.con x) calls (zLC (Con.con x) calls).1).1=old) :
  old.length=calls.length∧(∀ o ∈ old,zN3 o)∧zOc (Con.con x) calls old=(old,0,true)∧zKx old old=0∧(zJF old old).length=calls.length:=by
 have h6:=zMj hc
 rcases zMi hc with ⟨h1,_⟩|⟨_,w,h2,h3,h4,_⟩
 ·rw [h1] at hs;cases hs
 rw [h2,zMc hc h3] at he
 have he:picks (zKs (Con.con x) calls) w=old:=he
 have hl:(zKs (Con.con x) calls).length=calls.length:=List.length_map ..
 have hpl:=zL5 h3
 rw [he,hl] at hpl
 have hop:∀ i,i < calls.length→old.getD i zJX ∈ zy1 (Con.con x) (calls.getD i dC):=fun i hi=>by
  rw [← he];exact zMf h3 i hi
 have hd:∀ o ∈ old,zN3 o:=fun o ho=>by
  obtain ⟨i,hi,rfl⟩:=List.getElem_of_mem ho
  have:=hop i (by omega)
  rw [List.getD_eq_getElem?_getD (l:=old),List.getElem?_eq_getElem hi] at this
  have:=zCk this
  exact ⟨this.1,this.2.1⟩
 have hch:∀ i,i < calls.length→∃ r,zBO (Con.con x) (calls.getD i dC) (old.getD i zJX)=old.getD i zJX :: r:=fun i hi=>by
  have h:=hop i hi
  rw [zBO,if_pos (zNK h),if_pos (zB8 h)]
  exact ⟨_,rfl⟩
 have hin:inR (zOb (Con.con x) calls old) (List.replicate calls.length 0):=zL7 (by rw [zOd,List.length_replicate]) fun i hi=>by
  rw [zOd] at hi
  obtain ⟨r,e⟩:=hch i hi
  rw [zOe hi,e]
  have:(List.replicate calls.length 0).getD i 0=0:=by rw [List.getD_eq_getElem?_getD,List.getElem?_replicate,if_pos hi];rfl
  rw [this]
  exact Nat.succ_pos _
 have hpk:picks (zOb (Con.con x) calls old) (List.replicate calls.length 0)=old:=by
  have hl2:=zL5 hin
  rw [zOd] at hl2
  refine List.ext_getElem (by omega) fun i h5 h7=>?_
  obtain ⟨_,e2⟩:=zL6 hin i (by rw [zOd];omega)
  obtain ⟨r,e⟩:=hch i (by omega)
  rw [zOe (by omega),e] at e2
  have h0:(List.replicate calls.length 0).getD i 0=0:=by rw [List.getD_eq_getElem?_getD,List.getElem?_replicate,if_pos (by omega)];rfl
  rw [h0,List.getD_eq_getElem?_getD (l:=picks _ _),List.getElem?_eq_getElem h5,List.getD_cons_zero,List.getD_eq_getElem?_getD,List.getElem?_eq_getElem h7] at e2
  exact e2
 have hself:zJB old old=0:=by rw [zN6 hd hd (by omega),zOa]
 have hkept:∀ k,k≤old.length→(zJE old old k).length=k:=fun k=>by
  induction k with
  | zero=>intro _;rfl
  | succ k ih =>
   intro hk
   rw [zJE,if_pos rfl,List.length_append,ih (by omega)];rfl
 have hk2:(zJF old old).length=calls.length:=by rw [zJF,show min old.length old.length=old.length by omega,hkept _ (Nat.le_refl _),hpl]
 refine ⟨hpl,hd,?_,by rw [zKx,hk2];omega,hk2⟩
 rw [zOc,if_pos ⟨hc,hpl,hd⟩]
 rcases zN2 (x:=Con.con x) (w:=zJB old) (zN8 hd (by omega)) (zOh (x:=x) (calls:=calls) (old:=old)) with ⟨_,h1⟩|⟨ks,h1,h5,h7,h8⟩
 ·exact (h1 _ hin (by rw [hpk,← he];exact h4)).elim
 ·have h9:=h8 _ hin (by rw [hpk,← he];exact h4)
  rw [hpk,hself] at h9
  have hl5:=zL5 h5
  rw [zOd] at hl5
  have hps:=zN6 hd (zOj h5) (by omega)
  rw [show min old.length (picks (zOb (Con.con x) calls old) ks).length=calls.length by omega] at hps
  have hz:=zN9 hd (zOj h5) (k:=calls.length) (by omega) (by omega) (by omega)
  have hpe:picks (zOb (Con.con x) calls old) ks=old:=by
   refine List.ext_getElem (by omega) fun i h11 h12=>?_
   have:=hz i (by omega)
   rw [List.getD_eq_getElem?_getD,List.getElem?_eq_getElem h12,List.getD_eq_getElem?_getD,List.getElem?_eq_getElem h11] at this
   exact this.symm
  rw [h1]
  show (picks (zOb (Con.con x) calls old) ks,zJB old (picks (zOb (Con.con x) calls old) ks),true)=_
  rw [hpe,hself]
theorem zOm {x:DHarbour} {calls:List DCall} (h:zJJ (Con.con x) calls=true) {r:DRegime} (hr:zvl r=true):zJJ (Con.con { x with regime:=r }) calls=true:=by
 rw [zJJ,zvo] at h ⊢
 simp only [jJ] at h ⊢
 exact ⟨⟨⟨⟨h.1.1.1.1,hr⟩,h.1.1.2⟩,h.1.2⟩,h.2⟩
theorem zOn (o s:Sl DOption) (p:Nat) (h:Hp) (hp:h.lds (some ⟨p,0,none⟩) 1=some [o.val]) (ho:o.Ok h) (hs:s.Ok h):Ct jV 57 [s.val,.pointer (some ⟨p,0,none⟩)] h fun v h'=>v=.agg #[.int .i64 (zJB (o.l.map Con.con) (s.l.map Con.con)),.int .i64 0]∧h'=h:=by
 refine zdn (fun A W=>by simp) Tryz.func57 rfl rfl (by simp) fun W0=>?_
 repeat' first|refine Wa ?_|refine zhF (fun _=>zJD o s _ ho hs) ?_|(simp only [go_sem,jq,jj,jy,jv,jk,jx,hp];try rfl)|refine Wb ?_|fail
theorem zOo {L:Sl (Sl DOption)} {i:Nat} (hi:i < L.l.length):(LL L).getD i []=L.l[i].l.map (Con.con (α:=DOption)):=by
 rw [LL,List.getD_eq_getElem?_getD,List.getElem?_map,List.getElem?_eq_getElem hi];rfl
theorem zOp {L:Sl (Sl DOption)}:(LL L).length=L.l.length:=by rw [LL,List.length_map]
set_option maxRecDepth 30000 in
theorem zOq (L:Sl (Sl DOption)) (c:Sl Int) (w:List Nat) (h:Hp) (hL:L.Ok h) (hc:c.Ok h) (ew:c.l=zs w) (hR:inR (LL L) w) (h6:L.l.length≤6):Ct jV 58 [L.val,c.val] h fun v h'=>∃ s:Sl DOption,v=s.val∧s.l.map Con.con=picks (LL L) w∧s.Ok h':=by
 have hcm:=hc.max
 have hLm:=hL.max
 have hwl:w.length=L.l.length:=by rw [zL4 hR,zOp]
 have hcl:c.l.length=L.l.length:=by rw [ew,zAH,hwl]
 refine zdn (fun A W=>by simp) Tryz.func58 rfl rfl (by simp) fun W0=>?_
 refine Wk ?_
 refine zl0 (ι:=Nat × List DOption) (fun i=>⟨[(0,true,.c (.v L.val)),(4,true,.c (.v (.slice none 0 0))),(5,true,.c (.s 0)),(9,true,.c (.v c.val)),(10,true,.c (.v (.int .i64 c.l.length))),(11,true,.c (.v (.int .i64 i.1)))],[(0,.row 53 4 i.2.length (i.2.flatMap Enc.enc))],h,1⟩)
  (fun i=>i.1≤c.l.length∧i.2.length=i.1∧i.2.map Con.con=(picks (LL L) w).take i.1∧∀ y ∈ i.2,Enc.ok h y) (fun i=>c.l.length - i.1) (0,[]) ⟨Nat.zero_le _,rfl,rfl,fun y hy=>(by cases hy)⟩ [0] ?_ ?_
 ·refine Evs ?_
  exact Gk
 rintro ⟨k,acc⟩ ⟨hk,hal,hac,hacok⟩
 simp only at hk hal hac hacok
 refine Wk ?_
 refine zc9 rfl (fun hd=>?_) (fun hd=>?_)
 ·have hlt:=zjH hd
  have hkL:k < L.l.length:=by omega
  have hkLi:(k:Int) < L.l.length:=by omega
  obtain ⟨p1,p2⟩:=zL6 hR k (by rw [zOp];exact hkL)
  rw [zOo hkL,List.length_map] at p1
  rw [zOo hkL] at p2
  have hck:c.l[k]=((w.getD k 0:Nat):Int):=by rw [← iget hlt,ew,zMb]
  obtain ⟨j,hj⟩:∃ j,w.getD k 0=j:=⟨_,rfl⟩
  rw [hj] at p1 p2 hck
  have hji:(j:Int) < L.l[k].l.length:=by omega
  have okl:L.l[k].Ok h:=Sl.Ok.el hL hkL
  repeat' first|refine Wa ?_|(simp only [go_sem,jq,jj,jy,jv,jk,jx,zkv hc hlt,hc.some hlt,hlt,hck,zku hL hkL,hL.some hkL,hkL,hkLi,zkC okl p1,okl.some p1,p1,hji,jW,jY];try rfl)|refine Wb ?_|fail
  refine ⟨by simp only [maxLen];omega,by omega,?_⟩
  refine Wk ?_
  refine ⟨(k+1,acc ++ [L.l[k].l[j]]),[2],⟨hlt,?_,?_,fun y hy=>?_⟩,by simp only;omega,?_⟩
  ·show (acc ++ [_]).length=k+1
   rw [List.length_append,hal];rfl
  ·show (acc ++ [_]).map _=(picks (LL L) w).take (k+1)
   have hkp:k < (picks (LL L) w).length:=by rw [zL5 hR,zOp];exact hkL
   rw [List.map_append,hac,List.take_succ_eq_append_getElem hkp]
   congr 1
   rw [List.getD_eq_getElem?_getD,List.getElem?_eq_getElem hkp,List.getD_eq_getElem?_getD,List.getElem?_map,List.getElem?_eq_getElem p1] at p2
   exact congrArg (fun z=>[z]) (show Con.con L.l[k].l[j]=(picks (LL L) w)[k] from p2.symm)
  ·rcases List.mem_append.1 hy with hy|hy
   ·exact hacok y hy
   ·rw [List.mem_singleton.1 hy];exact Sl.Ok.el okl p1
  refine Evs ?_
  simp only [List.flatMap_append,List.length_append]
  exact Gi (zjA hlt (by omega))
 ·have hge:=zjI hd
  refine zc6 ?_
  refine Evs ?_
  refine znD 0 acc rfl rfl rfl rfl fun s h1 e1 R f l1 _=>?_
  refine Wk ?_
  refine ⟨s,rfl,?_,R.ok (by decide) fun y hy=>by rw [e1] at hy;exact Enc.mono l1 (hacok y hy)⟩
  rw [e1,hac,List.take_of_length_le (by rw [zL5 hR,zOp];omega)]
theorem zOr {x:DHarbour} {calls:List DCall} {old:List POption} {L:Sl (Sl DOption)} (h:LL L=zOb (Con.con x) calls old):(∀ l ∈ L.l,l.l.length≤90)∧∀ l ∈ L.l,∀ y ∈ l.l,zBC (Con.con x.chart) x.fleet.l y.pas.l∧y.pas.l.length≤1000:=by
 have key:∀ l ∈ L.l,∃ c o,l.l.map (Con.con (α:=DOption))=zBO (Con.con x) c o:=fun l hl=>by
  have:l.l.map (Con.con (α:=DOption)) ∈ zOb (Con.con x) calls old:=by rw [← h];exact List.mem_map.2 ⟨l,hl,rfl⟩
  rw [zOb] at this
  obtain ⟨i,_,e⟩:=List.mem_map.1 this
  exact ⟨_,_,e.symm⟩
 refine ⟨fun l hl=>?_,fun l hl y hy=>?_⟩
 ·obtain ⟨c,o,e⟩:=key l hl
  have h1:=congrArg List.length e
  rw [List.length_map] at h1
  rw [h1]
  have h2:=(zzi (x:=Con.con x) (a:=c)).1
  rw [zBO]
  split
  ·rw [List.length_append]
   have h3:=List.length_filter_le (fun o'=>!zut o' o) (zy1 (Con.con x) c)
   have h4:(if zyW (Con.con x) c o=true then [o] else []).length≤1:=by split <;> simp
   omega
  ·exact Nat.zero_le _
 ·obtain ⟨c,o,e⟩:=key l hl
  have hm:Con.con y ∈ zBO (Con.con x) c o:=by rw [← e];exact List.mem_map.2 ⟨y,hy,rfl⟩
  have h1:=zKr (zOg hm)
  rw [zLG] at h1
  have h2:=zBP (zBQ (zOg hm))
  exact ⟨h1,by omega⟩
set_option maxRecDepth 30000 in
theorem zOs (x:DHarbour) (a:Sl DCall) (o:Sl DOption) (h:Hp) (hx:Enc.ok h x) (ha:a.Ok h) (ho:o.Ok h) (hz:Sz.sz (Con.con o)≤1048576):Ct jV 22 [x.v,a.val,o.val] h fun v h'=>∃ s:Sl DOption,v=.tuple #[s.val,.int .i64 (zOc (Con.con x) a.l (Con.con o)).2.1,.bool (zOc (Con.con x) a.l (Con.con o)).2.2]∧Con.con s=(zOc (Con.con x) a.l (Con.con o)).1∧s.Ok h':=by
 have hca:Con.con a=a.l:=zJK a
 have hco:(Con.con o:List POption)=o.l.map Con.con:=rfl
 have hom:=ho.max
 have ham:=ha.max
 obtain ⟨hsz,_⟩:=zLO hz
 refine zdn (fun A W=>by simp) Tryz.func22 rfl rfl (by simp) fun W0=>?_
 repeat' first|refine Wa ?_|refine zhF (fun _=>zJL x a _ hx ha) ?_|(simp only [go_sem,jq,jj,jy,jv,jk,jx];try rfl)|refine Wb ?_|fail
 rw [hca]
 refine zc9 rfl (fun hc=>?_) (fun hc=>?_)
 ·have hF:zOc (Con.con x) a.l (Con.con o)=([],0,false):=by
   rw [zOc,if_neg]
   rintro ⟨h1,h2,_⟩
   rw [hco,List.length_map] at h2
   rw [h1,h2] at hc
   simp at hc
  rw [hF]
  refine Wk ?_
  exact ⟨⟨none,0,[]⟩,rfl,rfl,zmo⟩
 obtain ⟨hH,h6⟩:=Bool.or_eq_false_iff.1 hc
 rw [Bool.not_eq_false'] at hH
 have hlen:o.l.length=a.l.length:=by have:=zjE h6;omega
 have h6:=zKv hH
 obtain ⟨hR,hC⟩:=zLN hH
 have hR:zvl x.regime=true:=hR
 refine Wk ?_
 refine zl0 (ι:=Nat × List (Sl DOption) × Hp) (fun i=>⟨[(3,true,.c (.p 0 0)),(5,true,.c (.p 1 0)),(6,true,.c (.v (.slice none 0 0))),(7,true,.c (.v (.int .i64 0))),(8,true,.c (.v (.bool false))),(9,true,.c (.s 2)),(27,true,.c (.v a.val)),(28,true,.c (.v (.int .i64 a.l.length))),(29,true,.c (.v (.int .i64 i.1)))],[(0,.box 40 [.v (.int .i64 x.forecast.tide.mean),.v x.forecast.tide.parts.val,.v x.forecast.surges.val,.v x.chart.points.val,.v x.chart.segments.val,.v x.fleet.val,.v (.int .i64 x.regime.gap),.v (.bool x.regime.noMeet),.v (.int .i64 x.crew.tugs),.v (.int .i64 x.crew.pilots),.v (.int .i64 x.crew.rest),.v x.crew.moves.val]),(1,.box 48 [.v o.val]),(2,.row 48 1 i.2.1.length (i.2.1.flatMap Enc.enc))],i.2.2,3⟩)
  (fun i=>i.1≤a.l.length∧i.2.1.length=i.1∧(∀ j,(hj:j < i.2.1.length)→i.2.1[j].l.map (Con.con (α:=DOption))=zBO (Con.con x) (a.l.getD j dC) ((Con.con o:List POption).getD j zJX))∧(∀ j,j < i.1→zN3 ((Con.con o:List POption).getD j zJX))∧(∀ y ∈ i.2.1,Enc.ok i.2.2 y)∧Mines h i.2.2 i.2.1∧h.le i.2.2) (fun i=>a.l.length - i.1) (0,[],h) ⟨Nat.zero_le _,rfl,fun j hj=>absurd hj (Nat.not_lt_zero j),fun j hj=>absurd hj (Nat.not_lt_zero j),fun y hy=>(by cases hy),Mines.nil,Hp.le_refl _⟩ [0,1,2] ?_ ?_
 ·refine Evs ?_
  exact Gk
 rintro ⟨k,acc,hk⟩ ⟨hkl,hal,hac,hday,hacok,hacm,hle⟩
 simp only at hkl hal hac hday hacok hacm hle
 have hak:=ha.mono hle
 have hok:=ho.mono hle
 have hxk:Enc.ok hk x:=Enc.mono hle hx
 refine Wk ?_
 refine zc9 rfl (fun hd=>?_) (fun hd=>?_)
 ·have hlt:=zjH hd
  have hko:k < o.l.length:=by omega
  have hkoi:(k:Int) < o.l.length:=by omega
  have hgo:(Con.con o:List POption).getD k zJX=Con.con o.l[k]:=by
   rw [hco,List.getD_eq_getElem?_getD,List.getElem?_map,List.getElem?_eq_getElem hko];rfl
  repeat' first|refine Wa ?_|(simp only [go_sem,jq,jj,jy,jv,jk,jx,zE7 hak hlt,hak.some hlt,hlt,zkC hok hko,zlP hok hko,hok.some hko,hko,hkoi,jW,jY];try rfl)|refine Wb ?_|fail
  refine zhF (fun _=>zun o.l[k].start _) ?_
  refine Evs ?_
  repeat' first|refine zc8 ?_|(refine zc5 ?_;simp only [go_sem,jq,jj,jy,jv,jk,jx])|refine zc3 ?_
  refine zc9 rfl (fun hq=>?_) (fun hq=>?_)
  ·have hF:zOc (Con.con x) a.l (Con.con o)=([],0,false):=by
    rw [zOc,if_neg]
    rintro ⟨_,_,h3⟩
    have h4:zN3 (Con.con o.l[k]):=h3 _ (List.mem_map.2 ⟨_,List.getElem_mem hko,rfl⟩)
    obtain ⟨h5,h7⟩:=h4
    have h5:0≤o.l[k].start:=h5
    have h7:o.l[k].start≤2880:=h7
    simp [h5,h7] at hq
   rw [hF]
   refine Wk ?_
   exact ⟨⟨none,0,[]⟩,rfl,rfl,zmo⟩
  have hdk:zN3 (Con.con o.l[k]):=by
   show 0≤o.l[k].start∧o.l[k].start≤2880
   simp at hq;exact hq
  repeat' first|refine zc8 ?_|(refine zc5 ?_;simp only [go_sem,jq,jj,jy,jv,jk,jx])|refine zc3 ?_
  refine znv rfl ?_
  refine U_t [0,1,2,3,4,5,6] rfl ?_
  simp only [go_sem,jq,jj,jy,jv,jk,jx,zkC hok hko,zlP hok hko,hok.some hko,hko,hkoi,jW,jY]
  refine U_1 7 0 [] rfl rfl ?_
  simp only [go_sem,jq,jj,jy,jv,jk,jx,zkC hok hko,zlP hok hko,hok.some hko,hko,hkoi,jW,jY]
  refine zkj (zBU x a.l[k] o.l[k] _ hxk (hak.el hlt) (hok.el hko) (hsz hko)) rfl ?_
  rintro v h2 le2 ⟨s,rfl,es,oks,ms⟩
  refine Evs ?_
  refine U_1 8 0 [] rfl rfl ?_
  simp only [go_sem,jq,jj,jy,jv,jk,jx,zkC hok hko,zlP hok hko,hok.some hko,hko,hkoi,jW,jY]
  refine U_1 9 0 [] rfl rfl ?_
  simp only [go_sem,jq,jj,jy,jv,jk,jx,zkC hok hko,zlP hok hko,hok.some hko,hko,hkoi,jW,jY]
  refine ⟨by simp only [maxLen];omega,by omega,?_⟩
  try simp only [go_sem,jq,jj,jy,jv,jk,jx]
  refine U_t [10] rfl ?_
  simp only [go_sem,jq,jj,jy,jv,jk,jx,zkC hok hko,zlP hok hko,hok.some hko,hko,hkoi,jW,jY]
  refine U_d ?_
  refine Wk ?_
  have hle2:=Hp.le_trans hle le2
  have hw:IntKind.i64.wrap ((k:Int)+1)=((k+1:Nat):Int):=zjA hlt (by omega)
  have es:s.l.map (Con.con (α:=DOption))=zBO (Con.con x) a.l[k] (Con.con o.l[k]):=es
  refine ⟨(k+1,acc ++ [s],h2),[0,1,5],⟨hlt,?_,?_,?_,fun y hy=>?_,Mines.snoc hacm hacok le2 hle ms,hle2⟩,by simp only;omega,?_⟩
  ·show (acc ++ [s]).length=k+1
   rw [List.length_append,hal];rfl
  ·intro j hj
   have hj9:j < (acc ++ [s]).length:=hj
   show (acc ++ [s])[j].l.map _=_
   rw [List.length_append,List.length_singleton] at hj9
   rcases Nat.lt_or_ge j acc.length with h1|h1
   ·rw [List.getElem_append_left h1];exact hac j h1
   ·obtain rfl:j=k:=by omega
    rw [List.getElem_append_right h1,cget hlt,hgo,← es]
    simp [hal]
  ·intro j hj
   rcases Nat.lt_or_ge j k with h1|h1
   ·exact hday j h1
   ·have hj:j < k+1:=hj
    obtain rfl:j=k:=by omega
    rw [hgo];exact hdk
  ·rcases List.mem_append.1 hy with hy|hy
   ·exact Enc.mono le2 (hacok y hy)
   ·rw [List.mem_singleton.1 hy];exact oks
  refine Evs ?_
  rw [hw]
  simp only [List.flatMap_append,List.length_append]
  exact Gk
 have hge:=zjI hd
 have hke:k=a.l.length:=by omega
 have hdall:∀ y ∈ (Con.con o:List POption),zN3 y:=fun y hy=>by
  obtain ⟨i,hi,rfl⟩:=List.getElem_of_mem hy
  have hi2:i < o.l.length:=by rwa [hco,List.length_map] at hi
  have:=hday i (by omega)
  rwa [List.getD_eq_getElem?_getD,List.getElem?_eq_getElem hi] at this
 have hcl9:(Con.con o:List POption).length=a.l.length:=by rw [hco,List.length_map,hlen]
 have hFC:∀ (L:Sl (Sl DOption)),L.l=acc→LL L=zOb (Con.con x) a.l (Con.con o):=fun L eL=>by
  rw [LL,zOb,eL]
  refine List.ext_getElem? fun i=>?_
  rw [List.getElem?_map,List.getElem?_map]
  rcases Nat.lt_or_ge i acc.length with h1|h1
  ·rw [List.getElem?_eq_getElem h1,List.getElem?_range (by omega)]
   exact congrArg some (hac i h1)
  ·rw [List.getElem?_eq_none h1,List.getElem?_eq_none (by rw [List.length_range];omega)];rfl
 have hcp:zOc (Con.con x) a.l (Con.con o)=(match srW (Con.con x) (zJB (Con.con o)) (zOb (Con.con x) a.l (Con.con o)) [] [] none with
  | none=>([],0,false)
  | some (ch,c)=>(picks (zOb (Con.con x) a.l (Con.con o)) ch,c,true)):=by
  rw [zOc,if_pos ⟨hH,hcl9,hdall⟩]
  first|done|(cases srW (Con.con x) (zJB (Con.con o)) (zOb (Con.con x) a.l (Con.con o)) [] [] none <;> rfl)
 have hsem:=zN2 (x:=Con.con x) (w:=zJB (Con.con o)) (zN8 hdall (by omega)) (zOh (x:=x) (calls:=a.l) (old:=(Con.con o:List POption)))
 refine zc6 ?_
 refine Evs ?_
 refine zlE 2 acc rfl rfl rfl rfl (by decide) hacok h hle hacm fun L h5 eL okL le5 _=>?_
 have hLL:=hFC L eL
 obtain ⟨g1,g2⟩:=zOr (x:=x) hLL
 have hL6:L.l.length≤6:=by rw [eL,hal];omega
 refine zmE 1 rfl rfl fun p hp hop=>?_
 refine Evs ?_
 have le6:h5.le (h5.ins p (.cells #[o.val] 48 (0,0))):=Hp.ins_le hp
 have hl1:(h5.ins p (.cells #[o.val] 48 (0,0))).lds (some ⟨p,0,none⟩) 1=some [o.val]:=zmG (xs:=[o.val]) Hp.ins_same rfl (by simp)
 generalize h5.ins p (.cells #[o.val] 48 (0,0))=h6 at le6 hl1 ⊢
 have hx6:Enc.ok h6 x:=Enc.mono (Hp.le_trans le5 le6) hxk
 have ho6:o.Ok h6:=hok.mono (Hp.le_trans le5 le6)
 first|refine zmR [0,0,1,0,0,0,0,0,0,0,0,0] rfl ?_|refine zmQ [0,0,1,0,0,0,0,0,0,0,0,0] rfl ?_|(refine zc3 ?_;first|refine zmR [0,0,1,0,0,0,0,0,0,0,0,0] rfl ?_|refine zmQ [0,0,1,0,0,0,0,0,0,0,0,0] rfl ?_)
 refine Evs ?_
 refine zkj (zMu x L 57 [.pointer (some ⟨p,0,none⟩)] (zJB (o.l.map Con.con)) _ hx6 (okL.mono le6) hR hL6 g1 g2 (fun s h' hs hle' _=>zOn o s p h' (zaf hle' hl1) (ho6.mono hle') hs)) rfl ?_
 rintro v h8 le8 ⟨s,c,fo,rfl,es,oks,_⟩
 rw [hLL] at es
 rcases hsem with ⟨h1,_⟩|⟨ks,h1,hin,_⟩
 ·rw [show zJB (o.l.map Con.con)=zJB (Con.con o) from rfl,h1] at es
  obtain ⟨es1,es2,es3⟩:s.l=[]∧c=0∧fo=false:=⟨congrArg Prod.fst es,congrArg (fun z=>z.2.1) es,congrArg (fun z=>z.2.2) es⟩
  subst es2 es3
  rw [hcp,h1]
  refine Evs ?_
  refine Wk ?_
  refine zc9 rfl (fun hz=>?_) (fun hz=>?_)
  case refine_2=>cases hz
  refine Wk ?_
  exact ⟨⟨none,0,[]⟩,rfl,rfl,zmo⟩
 ·rw [show zJB (o.l.map Con.con)=zJB (Con.con o) from rfl,h1] at es
  obtain ⟨es1,es2,es3⟩:s.l=zs ks∧c=zJB (Con.con o) (picks (zOb (Con.con x) a.l (Con.con o)) ks)∧fo=true:=⟨congrArg Prod.fst es,congrArg (fun z=>z.2.1) es,congrArg (fun z=>z.2.2) es⟩
  subst es3
  rw [hcp,h1]
  have hin2:inR (LL L) ks:=by rw [hLL];exact hin
  have z2:(0:Int) < ((2:Nat):Int):=by decide
  refine Evs ?_
  refine Wk ?_
  refine zc9 rfl (fun hz=>?_) (fun hz=>?_)
  ·cases hz
  repeat' first|refine zc8 ?_|(refine zc5 ?_;simp only [go_sem,jq,jj,jy,jv,jk,jx])|refine zc3 ?_
  refine znv rfl ?_
  refine U_t [0,1,3,4] rfl ?_
  simp only [go_sem,jq,jj,jy,jv,jk,jx,Int.toNat_zero,Nat.zero_mul,Nat.zero_add,Int.le_refl,z2,implies_true,true_and,and_true,and_self]
  refine U_1 2 0 [4,3] rfl rfl ?_
  simp only [go_sem,jq,jj,jy,jv,jk,jx,Int.toNat_zero,Nat.zero_mul,Nat.zero_add,Int.le_refl,z2,implies_true,true_and,and_true,and_self]
  refine zkj (zOq L s ks _ ((okL.mono le6).mono le8) oks (by rw [es1]) hin2 hL6) rfl ?_
  rintro v h9 le9 ⟨q,rfl,eq,okq⟩
  refine Evs ?_
  refine U_t [5,6,7] rfl ?_
  simp only [go_sem,jq,jj,jy,jv,jk,jx,Int.toNat_zero,Nat.zero_mul,Nat.zero_add,Int.le_refl,z2,implies_true,true_and,and_true,and_self]
  refine U_d ?_
  refine Wk ?_
  rw [hLL] at eq
  exact ⟨q,by rw [es2],eq,okq⟩
end Go.Proofs.YtdeflkhkfmjckaaGreat
