/- What functions of the given program compute, as contracts. -/
import Derived.Test.YtdejfjdbcggilaaGreatSGFnRefusalsx19
import Derived.Test.YtdejfjdbcggilaaGreatSGFnRefusalsx3
import Derived.Test.YtdejfjdbcggilaaGreatXGFnRefusals13
import Derived.Test.YtdejfjdbcggilaaGreatXGFnRefusals14
import Derived.Test.YtdejfjdbcggilaaGreatXGFnRefusals15
import Derived.Test.YtdejfjdbcggilaaGreatXGFnRefusals17
import Derived.Test.YtdejfjdbcggilaaGreatXGFnRefusals18
import Derived.Test.YtdejfjdbcggilaaGreatXGFnRefusals6
import Derived.Test.YtdejfjdbcggilaaGreatXGFnRefusals9
set_option linter.unusedVariables false
set_option linter.unusedSimpArgs false
set_option maxRecDepth 4000
open Nat renaming reduceAdd → jq, reduceMul → jj, reduceBEq → jy, reduceLeDiff → jv, reduceLT → jk, reduceEqDiff → jx
open Bool renaming or_eq_false_iff → jp, or_eq_true → jQ, and_eq_true → jJ
open Int renaming toNat_natCast → jW, natCast_nonneg → jY
open Go.Proofs.Tryz renaming prog → jV
namespace Go.Proofs.YtdejfjdbcggilaaGreat
open Go Go.SL
set_option maxHeartbeats 1000000
def GC0 (a:DCall):Prop:=((a.src=0∧a.dst=3)∨(a.src=3∧a.dst=0))∧(0≤a.ready∧a.ready≤435)∧(a.ready+60≤a.due∧a.due < a.ready+460)
theorem zRg {h:Hp} {a:DCall} (H:GC0 a) (hs:I64 a.ship):Enc.ok h a:=by
 obtain ⟨h1,h2,h3⟩:=H
 refine ⟨hs,?_,?_,?_,?_⟩ <;> unfold I64 <;> omega
set_option maxRecDepth 30000 in
theorem zRh (sh:Int) (c:Sl U8) (h:Hp) (b:Nat) (H:Cu 188 c h b):Cw jV 143 [.pointer (some ⟨b,0,none⟩),.int .i64 sh] h (fun k=>k=b) fun v h'=>∃ a:DCall,(v=a.v∧a.ship=sh∧GC0 a)∧Cg 188 c h b h':=by
 refine zlI (fun A W=>by simp) Tryz.func143 rfl rfl (by simp)  (fun q hq=>by rw [hq];exact H.ne) fun W0 hW=>?_
 have own:W0.own b:=hW b rfl
 (first|refine zie rfl ?_|refine zc4 rfl ?_|(refine zc3 ?_;first|refine zie rfl ?_|refine zc4 rfl ?_));simp only [go_sem,jq,jj,jy,jv,jk,jx]
 first|refine zyi [0,0,1] rfl ?_|refine zyh [0,0,1] rfl ?_|(refine zc3 ?_;first|refine zyi [0,0,1] rfl ?_|refine zyh [0,0,1] rfl ?_)
 refine Evs ?_
 refine zlJ (zQk c 30 _ b H (by decide)) rfl (fun q hq=>⟨by rw [hq];exact H.ne,.inr (hq ▸ own)⟩) ?_
 rintro v h1 - ⟨k1,⟨rfl,a1,b1⟩,G1⟩
 have C1:=G1.1
 refine Evs ?_
 rw [zjz (n:=15 * k1) (by omega)]
 first|refine zyi [0,1] rfl ?_|refine zyh [0,1] rfl ?_|(refine zc3 ?_;first|refine zyi [0,1] rfl ?_|refine zyh [0,1] rfl ?_)
 refine Evs ?_
 refine zlJ (zQl c 3 _ b C1 (by decide)) rfl (fun q hq=>⟨by rw [hq];exact C1.ne,.inr (hq ▸ own)⟩) ?_
 rintro v h2 - ⟨q2,rfl,G2⟩
 have C2:=G2.1
 refine Evs ?_
 repeat' first|refine zc8 ?_|(refine zc5 ?_;simp only [go_sem,jq,jj,jy,jv,jk,jx])|refine zc3 ?_
 refine zED (ι:=Int × Int) (fun i=>⟨[(0,true,.c (.v (.pointer (some ⟨b,0,none⟩)))),(4,true,.c (.p 0 0)),(5,true,.c (.p 1 0))],[(0,.box 90 [.v (.int .i64 0),.v (.int .i64 0),.v (.int .i64 0),.v (.int .i64 0),.v (.int .i64 0)]),(1,.box 90 [.v (.int .i64 sh),.v (.int .i64 i.1),.v (.int .i64 i.2),.v (.int .i64 (15 * k1)),.v (.int .i64 0)])],h2,2⟩)
  (fun i=>(i.1=0∧i.2=3)∨(i.1=3∧i.2=0)) (fun _=>rfl) ?_ ?_
 ·refine zc9 rfl (fun hq=>?_) (fun hq=>?_)
  ·refine Wk ?_
   refine ⟨(3,0),[0,1],.inr ⟨rfl,rfl⟩,?_⟩
   refine Evs ?_
   repeat' first|exact rfl|exact trivial|assumption|decide|refine And.intro ?_ ?_
  ·repeat' first|refine zc8 ?_|(refine zc5 ?_;simp only [go_sem,jq,jj,jy,jv,jk,jx])|refine zc3 ?_
   refine ⟨(0,3),[0,1],.inl ⟨rfl,rfl⟩,?_⟩
   refine Evs ?_
   repeat' first|exact rfl|exact trivial|assumption|decide|refine And.intro ?_ ?_
 rintro ⟨i1,i2⟩ hi
 simp only at hi
 repeat' first|refine zc8 ?_|(refine zc5 ?_;simp only [go_sem,jq,jj,jy,jv,jk,jx])|refine zc3 ?_
 refine zyW rfl ?_
 refine U_t [0,3,1,2] rfl ?_
 refine Evs ?_
 refine U_1 4 1 [2,1,0] rfl rfl ?_
 refine Evs ?_
 refine zlJ (zQk c 400 _ b C2 (by decide)) rfl (fun q hq=>⟨by rw [hq];exact C2.ne,.inr (hq ▸ own)⟩) ?_
 rintro v h3 - ⟨k3,⟨rfl,a3,b3⟩,G3⟩
 have C3:=G3.1
 refine Evs ?_
 refine U_t [5,6] rfl ?_
 refine Evs ?_
 refine U_1 7 0 [] rfl rfl ?_
 refine Evs ?_
 refine U_d ?_
 rw [zjz (n:=15 * k1+60) (by omega),zjz (n:=15 * k1+60+k3) (by omega)]
 refine Wk ?_
 exact ⟨⟨sh,i1,i2,15 * k1,15 * k1+60+k3⟩,⟨rfl,rfl,hi,(by show 0≤15 * k1∧15 * k1≤435;omega),(by show 15 * k1+60≤15 * k1+60+k3∧15 * k1+60+k3 < 15 * k1+460;omega)⟩,(G1.trans G2).trans G3⟩
theorem zRi {x:DHarbour} {l:List DCall} {i:Nat} {a:DCall} (h1:∀ y ∈ l,zQz x y∧y.ship < i) (h2:l.Pairwise fun y z=>y.ship < z.ship) (ha:zQz x a) (hs:a.ship=i):(∀ y ∈ l ++ [a],zQz x y∧y.ship < (i+1:Nat))∧(l ++ [a]).Pairwise fun y z=>y.ship < z.ship:=by
 refine ⟨fun y hy=>?_,?_⟩
 ·rcases List.mem_append.1 hy with hy|hy
  ·obtain ⟨k1,k2⟩:=h1 y hy
   exact ⟨k1,by omega⟩
  ·rw [List.mem_singleton.1 hy];exact ⟨ha,by omega⟩
 ·rw [List.pairwise_append]
  refine ⟨h2,List.pairwise_singleton ..,fun y hy z hz=>?_⟩
  rw [List.mem_singleton.1 hz,hs]
  exact (h1 y hy).2
set_option maxRecDepth 30000 in
theorem zRj (c:Sl U8) (h:Hp) (b:Nat) (H:Cu 188 c h b):Cw jV 94 [.pointer (some ⟨b,0,none⟩)] h (fun k=>k=b) fun v h'=>∃ (x:DHarbour) (s:Sl DCall),(v=.tuple #[x.v,s.val]∧zQy x∧zQJ x s.l∧Enc.ok (h'.del b) x∧s.Ok (h'.del b))∧Cg 188 c h b h':=by
 refine zlI (fun A W=>by simp) Tryz.func94 rfl rfl (by simp)  (fun q hq=>by rw [hq];exact H.ne) fun W0 hW=>?_
 have own:W0.own b:=hW b rfl
 (first|refine zie rfl ?_|refine zc4 rfl ?_|(refine zc3 ?_;first|refine zie rfl ?_|refine zc4 rfl ?_));simp only [go_sem,jq,jj,jy,jv,jk,jx]
 first|refine zyi [0,1] rfl ?_|refine zyh [0,1] rfl ?_|(refine zc3 ?_;first|refine zyi [0,1] rfl ?_|refine zyh [0,1] rfl ?_)
 refine Evs ?_
 refine zlJ (zQ6 c _ b H) rfl (fun q hq=>⟨by rw [hq];exact H.ne,.inr (hq ▸ own)⟩) ?_
 rintro v h1 - ⟨x,⟨rfl,gx,okx⟩,G1⟩
 have C1:=G1.1
 refine Evs ?_
 have hfl:=gx.fleet.1
 (first|refine zie rfl ?_|refine zc4 rfl ?_|(refine zc3 ?_;first|refine zie rfl ?_|refine zc4 rfl ?_));simp only [go_sem,jq,jj,jy,jv,jk,jx]
 (first|refine zie rfl ?_|refine zc4 rfl ?_|(refine zc3 ?_;first|refine zie rfl ?_|refine zc4 rfl ?_));simp only [go_sem,jq,jj,jy,jv,jk,jx]
 obtain ⟨n,hn⟩:∃ n,x.fleet.l.length=n:=⟨_,rfl⟩
 rw [hn]
 repeat' first|refine zc8 ?_|(refine zc5 ?_;simp only [go_sem,jq,jj,jy,jv,jk,jx])|refine zc3 ?_
 refine zEE (ι:=Nat × List DCall × Hp) (fun i=>⟨[(0,true,.c (.v (.pointer (some ⟨b,0,none⟩)))),(2,true,.c (.p 0 0)),(3,true,.c (.v (.slice none 0 0))),(4,true,.c (.p 1 0)),(5,true,.c (.s 2)),(12,true,.c (.v (.int .i64 n))),(13,true,.c (.v (.int .i64 i.1)))],[(0,.box 58 [.v (.int .i64 0),.v (.slice none 0 0),.v (.slice none 0 0),.v (.slice none 0 0),.v (.slice none 0 0),.v (.slice none 0 0),.v (.int .i64 0),.v (.bool false),.v (.int .i64 0),.v (.int .i64 0),.v (.int .i64 0),.v (.slice none 0 0)]),(1,.box 58 [.v (.int .i64 x.forecast.tide.mean),.v x.forecast.tide.parts.val,.v x.forecast.surges.val,.v x.chart.points.val,.v x.chart.segments.val,.v x.fleet.val,.v (.int .i64 x.regime.gap),.v (.bool x.regime.noMeet),.v (.int .i64 x.crew.tugs),.v (.int .i64 x.crew.pilots),.v (.int .i64 x.crew.rest),.v x.crew.moves.val]),(2,.row 90 5 i.2.1.length (i.2.1.flatMap Enc.enc))],i.2.2,3⟩)
  (fun i=>i.1≤n∧i.2.1.length≤i.1∧(0 < i.1→1≤i.2.1.length)∧(∀ y ∈ i.2.1,zQz x y∧y.ship < (i.1:Nat))∧(i.2.1.Pairwise fun y z=>y.ship < z.ship)∧Cg 188 c h1 b i.2.2) (fun i=>n - i.1) (0,[],h1)
  ⟨Nat.zero_le _,Nat.le_refl _,fun e=>absurd e (Nat.lt_irrefl _),(fun y hy=>by cases hy),List.Pairwise.nil,Cg.refl C1⟩ [0,1,2] ?_ ?_
 ·refine Evs ?_
  repeat' first|exact rfl|exact trivial|assumption|decide|refine And.intro ?_ ?_
 rintro ⟨i,ls,hk⟩ ⟨hi,hl,h0l,hg,hp,Gk⟩
 simp only at hi hl h0l hg hp Gk
 have Ck:=Gk.1
 refine Wk ?_
 refine zc9 rfl (fun hd=>?_) (fun hd=>?_)
 ·have hlt:i < n:=by have:=of_decide_eq_true hd;omega
  repeat' first|refine zc8 ?_|(refine zc5 ?_;simp only [go_sem,jq,jj,jy,jv,jk,jx])|refine zc3 ?_
  (first|refine zie rfl ?_|refine zc4 rfl ?_|(refine zc3 ?_;first|refine zie rfl ?_|refine zc4 rfl ?_));simp only [go_sem,jq,jj,jy,jv,jk,jx]
  repeat' first|refine zc8 ?_|(refine zc5 ?_;simp only [go_sem,jq,jj,jy,jv,jk,jx])|refine zc3 ?_
  refine zEC (ι:=Bool × Hp) (fun j=>⟨[(0,true,.c (.v (.pointer (some ⟨b,0,none⟩)))),(2,true,.c (.p 0 0)),(3,true,.c (.v (.slice none 0 0))),(4,true,.c (.p 1 0)),(5,true,.c (.s 2)),(6,true,.c (.v (.int .i64 i))),(12,true,.c (.v (.int .i64 n))),(13,true,.c (.v (.int .i64 i))),(22,true,.c (.v (.bool j.1)))],[(0,.box 58 [.v (.int .i64 0),.v (.slice none 0 0),.v (.slice none 0 0),.v (.slice none 0 0),.v (.slice none 0 0),.v (.slice none 0 0),.v (.int .i64 0),.v (.bool false),.v (.int .i64 0),.v (.int .i64 0),.v (.int .i64 0),.v (.slice none 0 0)]),(1,.box 58 [.v (.int .i64 x.forecast.tide.mean),.v x.forecast.tide.parts.val,.v x.forecast.surges.val,.v x.chart.points.val,.v x.chart.segments.val,.v x.fleet.val,.v (.int .i64 x.regime.gap),.v (.bool x.regime.noMeet),.v (.int .i64 x.crew.tugs),.v (.int .i64 x.crew.pilots),.v (.int .i64 x.crew.rest),.v x.crew.moves.val]),(2,.row 90 5 ls.length (ls.flatMap Enc.enc))],j.2,3⟩)
   (fun j=>(i=0→j.1=true)∧Cg 188 c h1 b j.2) ?_ ?_
  ·rcases Nat.eq_zero_or_pos i with h0|h0
   ·have hz:((i:Int) == 0)=true:=by rw [h0];rfl
    refine zc4 rfl ?_
    simp only [go_sem,jq,jj,jy,jv,jk,jx,hz,Bool.not_true,Bool.not_false,Bool.false_eq_true,false_implies,true_and,implies_true]
    refine zhF (V:=.bool false) (fun hg=>by cases hg) ?_
    simp only [go_sem,jq,jj,jy,jv,jk,jx,hz,Bool.not_true,Bool.not_false,Bool.false_eq_true,false_implies,true_and,implies_true]
    refine ⟨(true,hk),[0,1,2],⟨fun _=>rfl,Gk⟩,?_⟩
    repeat' first|exact rfl|exact trivial|assumption|decide|refine And.intro ?_ ?_
   ·have hz:((i:Int) == 0)=false:=by rw [beq_eq_false_iff_ne];omega
    first|refine zRb [0,0,0,0,7] rfl ?_|refine zRa [0,0,0,0,7] rfl ?_|(refine zc3 ?_;first|refine zRb [0,0,0,0,7] rfl ?_|refine zRa [0,0,0,0,7] rfl ?_)
    simp only [go_sem,jq,jj,jy,jv,jk,jx,hz]
    simp only [vgd]
    simp only [go_sem,jq,jj,jy,jv,jk,jx,hz,Bool.not_true,Bool.not_false,Bool.false_eq_true,false_implies,true_and,implies_true]
    refine zlJ (zQl c 4 _ b Ck (by decide)) rfl (fun q hq=>⟨by rw [hq];exact Ck.ne,.inr (hq ▸ own)⟩) ?_
    rintro v h2 - ⟨k2,rfl,G2⟩
    have C2:=G2.1
    simp only [go_sem,jq,jj,jy,jv,jk,jx,hz,Bool.not_true,Bool.not_false,Bool.false_eq_true,false_implies,true_and,implies_true]
    refine ⟨(!k2,h2),[0,1,2],⟨fun e=>by omega,Gk.trans G2⟩,?_⟩
    refine Evs ?_
    repeat' first|exact rfl|exact trivial|assumption|decide|refine And.intro ?_ ?_
  rintro ⟨q,hj⟩ ⟨hq0,Gj⟩
  simp only at hq0 Gj
  have Cj:=Gj.1
  repeat' first|refine zc8 ?_|(refine zc5 ?_;simp only [go_sem,jq,jj,jy,jv,jk,jx])|refine zc3 ?_
  refine zc9 rfl (fun hq=>?_) (fun hq=>?_)
  ·repeat' first|refine zc8 ?_|(refine zc5 ?_;simp only [go_sem,jq,jj,jy,jv,jk,jx])|refine zc3 ?_
   first|refine zyi [0,0,0,1] rfl ?_|refine zyh [0,0,0,1] rfl ?_|(refine zc3 ?_;first|refine zyi [0,0,0,1] rfl ?_|refine zyh [0,0,0,1] rfl ?_)
   refine Evs ?_
   refine zlJ (zRh i c _ b Cj) rfl (fun q hq=>⟨by rw [hq];exact Cj.ne,.inr (hq ▸ own)⟩) ?_
   rintro v h3 - ⟨a,⟨rfl,ea,ga⟩,G3⟩
   have C3:=G3.1
   refine Evs ?_
   refine ⟨by simp only [maxLen];omega,by omega,?_⟩
   try simp only [go_sem,jq,jj,jy,jv,jk,jx]
   repeat' first|refine zc8 ?_|(refine zc5 ?_;simp only [go_sem,jq,jj,jy,jv,jk,jx])|refine zc3 ?_
   (first|refine zie rfl ?_|refine zc4 rfl ?_|(refine zc3 ?_;first|refine zie rfl ?_|refine zc4 rfl ?_));simp only [go_sem,jq,jj,jy,jv,jk,jx]
   obtain ⟨g1,g2⟩:=zRi (x:=x) (a:=a) hg hp ⟨by rw [ea];omega,ga⟩ ea
   refine ⟨(i+1,ls ++ [a],h3),[0,1,4],⟨hlt,by rw [List.length_append,List.length_singleton];omega,(fun _=>by rw [List.length_append,List.length_singleton];omega),g1,g2,Gj.trans G3⟩,(by show n - (i+1) < n - i;omega),?_⟩
   simp only [go_sem,jq,jj,jy,jv,jk,jx,List.length_append,List.flatMap_append]
   repeat' first|exact zjB (zjA hlt (by omega))|exact rfl|exact trivial|assumption|decide|refine And.intro ?_ ?_
  ·repeat' first|refine zc8 ?_|(refine zc5 ?_;simp only [go_sem,jq,jj,jy,jv,jk,jx])|refine zc3 ?_
   (first|refine zie rfl ?_|refine zc4 rfl ?_|(refine zc3 ?_;first|refine zie rfl ?_|refine zc4 rfl ?_));simp only [go_sem,jq,jj,jy,jv,jk,jx]
   have hi0:0 < i:=by
    rcases Nat.eq_zero_or_pos i with e|e
    ·rw [hq0 e] at hq;cases hq
    ·exact e
   refine ⟨(i+1,ls,hj),[0,1,2],⟨hlt,(by show ls.length≤i+1;omega),(fun _=>h0l hi0),(fun y hy=>⟨(hg y hy).1,by have:=(hg y hy).2;omega⟩),hp,Gj⟩,(by show n - (i+1) < n - i;omega),?_⟩
   refine Evs ?_
   repeat' first|exact zjB (zjA hlt (by omega))|exact rfl|exact trivial|assumption|decide|refine And.intro ?_ ?_
 have hin:i=n:=by have:=of_decide_eq_false hd;omega
 refine zc6 ?_
 refine Evs ?_
 refine zCP 2 ls rfl rfl rfl rfl fun s h9 e9 R9 f9 le9 _=>?_
 refine Wk ?_
 have G9:=Gk.grow le9
 have ks:s.Ok (h9.del b):=(zOF R9 f9 Ck.ne).ok (by decide) fun y hy=>by
  rw [e9] at hy
  obtain ⟨⟨a1,a2⟩,a3⟩:=hg y hy
  exact zRg a2 (by unfold I64;omega)
 exact ⟨x,s,⟨rfl,gx,⟨by rw [e9];omega,by rw [e9];exact fun y hy=>(hg y hy).1,by rw [e9];exact hp⟩,Enc.mono G9.2 okx,ks⟩,G1.trans G9⟩
theorem zRk (c:Sl U8) (h:Hp) (hc:c.Ok h):Ct jV 43 [c.val] h fun v h'=>∃ (x:DHarbour) (s:Sl DCall),v=.tuple #[x.v,s.val]∧zQy x∧zQJ x s.l∧Enc.ok h' x∧s.Ok h':=by
 refine zdn (fun A W=>by simp) Tryz.func43 rfl rfl (by simp) fun W0=>?_
 (first|refine zie rfl ?_|refine zc4 rfl ?_|(refine zc3 ?_;first|refine zie rfl ?_|refine zc4 rfl ?_));simp only [go_sem,jq,jj,jy,jv,jk,jx]
 first|refine zyi [0,0,1] rfl ?_|refine zyh [0,0,1] rfl ?_|(refine zc3 ?_;first|refine zyi [0,0,1] rfl ?_|refine zyh [0,0,1] rfl ?_)
 refine Evs ?_
 refine zkr (zQg c _ hc) rfl ?_
 rintro v h1 le1 ⟨b,rfl,hb,C1⟩
 refine Evs ?_
 refine zlJ (zRj c _ b C1) rfl (fun q hq=>⟨by rw [hq];exact C1.ne,.inl (by rw [hq];exact hb)⟩) ?_
 rintro v h2 - ⟨x,s,⟨rfl,gx,gs,okx,oks⟩,G2⟩
 have C2:=G2.1
 refine Evs ?_
 refine Wk ?_
 exact ⟨x,s,rfl,gx,gs,Enc.mono zOB okx,oks.mono zOB⟩
theorem zRl (c:Sl U8) (n:Nat) (h:Hp) (hc:c.Ok h) (hn:n≤100000):Ct jV 101 [c.val,.int .i64 n] h fun v h'=>∃ b,v=.pointer (some ⟨b,0,none⟩)∧h b=none∧Cu 188 c h' b:=by
 refine zdn (fun A W=>by simp) Tryz.func101 rfl rfl (by simp) fun W0=>?_
 (first|refine zie rfl ?_|refine zc4 rfl ?_|(refine zc3 ?_;first|refine zie rfl ?_|refine zc4 rfl ?_));simp only [go_sem,jq,jj,jy,jv,jk,jx]
 (first|refine zie rfl ?_|refine zc4 rfl ?_|(refine zc3 ?_;first|refine zie rfl ?_|refine zc4 rfl ?_));simp only [go_sem,jq,jj,jy,jv,jk,jx]
 refine zkr (zQg c _ hc) rfl ?_
 rintro v h1 le1 ⟨b,rfl,hb,C1⟩
 refine Evs ?_
 (first|refine zie rfl ?_|refine zc4 rfl ?_|(refine zc3 ?_;first|refine zie rfl ?_|refine zc4 rfl ?_));simp only [go_sem,jq,jj,jy,jv,jk,jx]
 repeat' first|refine zc8 ?_|(refine zc5 ?_;simp only [go_sem,jq,jj,jy,jv,jk,jx])|refine zc3 ?_
 refine zEE (ι:=Nat × Hp) (fun i=>⟨[(1,true,.c (.v (.int .i64 n))),(4,true,.c (.v (.pointer none))),(5,true,.c (.v (.pointer (some ⟨b,0,none⟩)))),(6,true,.c (.v (.int .i64 i.1)))],[],i.2,0⟩)
  (fun i=>i.1≤n∧Cg 188 c h1 b i.2) (fun i=>n - i.1) (0,h1) ⟨Nat.zero_le _,Cg.refl C1⟩ [] ?_ ?_
 ·refine Evs ?_
  repeat' first|exact rfl|exact trivial|assumption|decide|refine And.intro ?_ ?_
 rintro ⟨i,hk⟩ ⟨hi,Gk⟩
 simp only at hi Gk
 have Ck:=Gk.1
 refine Wk ?_
 refine zc9 rfl (fun hd=>?_) (fun hd=>?_)
 ·have hlt:i < n:=by have:=of_decide_eq_true hd;omega
  repeat' first|refine zc8 ?_|(refine zc5 ?_;simp only [go_sem,jq,jj,jy,jv,jk,jx])|refine zc3 ?_
  first|refine zyi [0,1] rfl ?_|refine zyh [0,1] rfl ?_|(refine zc3 ?_;first|refine zyi [0,1] rfl ?_|refine zyh [0,1] rfl ?_)
  refine Evs ?_
  refine zlJ (zQi c _ b Ck) rfl (fun q hq=>⟨by rw [hq];exact Ck.ne,.inl (by rw [hq];exact hb)⟩) ?_
  rintro v h3 - ⟨k3,⟨rfl,a3,b3⟩,G3⟩
  have C3:=G3.1
  refine Evs ?_
  repeat' first|refine zc8 ?_|(refine zc5 ?_;simp only [go_sem,jq,jj,jy,jv,jk,jx])|refine zc3 ?_
  (first|refine zie rfl ?_|refine zc4 rfl ?_|(refine zc3 ?_;first|refine zie rfl ?_|refine zc4 rfl ?_));simp only [go_sem,jq,jj,jy,jv,jk,jx]
  refine ⟨(i+1,h3),[],⟨hlt,Gk.trans G3⟩,(by show n - (i+1) < n - i;omega),?_⟩
  refine Evs ?_
  repeat' first|exact zjB (zjA hlt (by omega))|exact rfl|exact trivial|assumption|decide|refine And.intro ?_ ?_
 refine Wk ?_
 exact ⟨b,rfl,hb,Ck⟩
theorem zRm (c:Sl U8) (n:Nat) (h:Hp) (hc:c.Ok h) (hn:n≤100000):Ct jV 46 [c.val,.int .i64 n] h fun v h'=>∃ k:Int,v=.int .i64 k∧0≤k∧k < 65536:=by
 refine zdn (fun A W=>by simp) Tryz.func46 rfl rfl (by simp) fun W0=>?_
 (first|refine zie rfl ?_|refine zc4 rfl ?_|(refine zc3 ?_;first|refine zie rfl ?_|refine zc4 rfl ?_));simp only [go_sem,jq,jj,jy,jv,jk,jx]
 (first|refine zie rfl ?_|refine zc4 rfl ?_|(refine zc3 ?_;first|refine zie rfl ?_|refine zc4 rfl ?_));simp only [go_sem,jq,jj,jy,jv,jk,jx]
 refine zkr (zRl c n _ hc hn) rfl ?_
 rintro v h1 le1 ⟨b,rfl,hb,C1⟩
 refine Evs ?_
 first|refine zyi [0,1,0,0,1] rfl ?_|refine zyh [0,1,0,0,1] rfl ?_|(refine zc3 ?_;first|refine zyi [0,1,0,0,1] rfl ?_|refine zyh [0,1,0,0,1] rfl ?_)
 refine Evs ?_
 refine zlJ (zQi c _ b C1) rfl (fun q hq=>⟨by rw [hq];exact C1.ne,.inl (by rw [hq];exact hb)⟩) ?_
 rintro v h2 - ⟨k2,⟨rfl,a2,b2⟩,G2⟩
 have C2:=G2.1
 refine Evs ?_
 refine zlJ (zQi c _ b C2) rfl (fun q hq=>⟨by rw [hq];exact C2.ne,.inl (by rw [hq];exact hb)⟩) ?_
 rintro v h3 - ⟨k3,⟨rfl,a3,b3⟩,G3⟩
 have C3:=G3.1
 refine Evs ?_
 rw [zjz (n:=k2 * 256) (by omega),zjz (n:=k2 * 256+k3) (by omega)]
 refine Wk ?_
 exact ⟨_,rfl,by omega,by omega⟩
set_option maxRecDepth 100000 in
theorem zRn (a0:Sl U8) (h:Hp) (oa0:a0.Ok h):Ct jV 13 [a0.val] h fun v h'=>v=.bool true:=by
 have nilk:∀ h9:Hp,(⟨none,0,[]⟩:Sl Int).Ok h9:=fun h9=>znp
 have niln:(Con.con (⟨none,0,[]⟩:Sl Int):List Int)=[]:=rfl
 refine zdn (fun A W=>by simp) Tryz.func13 rfl rfl (by simp) fun W0=>?_
 refine Wk ?_
 refine zc9 rfl (fun hq=>?_) (fun hq=>?_)
 ·exact Wk0
 refine Wk ?_
 refine zkr (zRk a0 _ oa0) rfl ?_
 rintro v h1 le1 ⟨x,a,rfl,gx,ga,okx,oka⟩
 have hca:(Con.con a:List DCall)=a.l:=zAQ a
 have hc:=zQK gx ga
 obtain ⟨l1,l2,l3,l4,l5⟩:=zQf hc
 refine Wk ?_
 refine zkr (zMs x a _ okx oka) rfl ?_
 rintro v h2 le2 ⟨r,rfl,er,okr,_⟩
 have okx2:=Enc.mono (x:=x) le2 okx
 have oka2:=oka.mono le2
 refine Wk ?_
 refine zkr (zMv x a _ okx2 oka2) rfl ?_
 rintro v h3 le3 ⟨ms,rfl,em,okm,_⟩
 have okx3:=Enc.mono (x:=x) le3 okx2
 have oka3:=oka2.mono le3
 have okr3:=okr.mono le3
 rw [hca] at er em
 have zr:Sz.sz (Con.con r)≤1048576:=by rw [er];exact zMn _ _
 have zm:Sz.sz (Con.con ms)≤1048576:=by rw [em];exact zMo _ _
 have hrl:r.l.length=(zMk (Con.con x) a.l).length:=by rw [← er,con_ints]
 have hml:ms.l.length=(zMl (Con.con x) a.l).length:=by rw [← em,con_ints]
 have ham:=oka.max
 have hmx:=okm.max
 have hrx:=okr.max
 have hd:IntKind.i64.wrap ((a.l.length:Int) - ms.l.length)=zMp (Con.con x) a.l:=by rw [l3,hml,zjz (by omega)]
 refine Wk ?_
 refine zhF (fun _=>zAS x a _ okx3 oka3) ?_
 simp (maxSteps:=2000000) only [go_sem,jq,jj,jy,jv,jk,jx,hca,hc,Bool.not_true,Bool.not_false,Bool.true_or,Bool.or_true,Bool.or_false,Bool.false_or,Bool.and_true,Bool.true_and,Bool.and_false,Bool.false_and,Bool.false_eq_true,false_implies,true_and,and_true,implies_true,bne_self_eq_false,beq_self_eq_true,reduceCtorEq]
 refine zhF (fun _=>zLM x a ms _ okx3 oka3 okm zm) ?_
 simp (maxSteps:=2000000) only [go_sem,jq,jj,jy,jv,jk,jx,hca,em,l1,Bool.not_true,Bool.not_false,Bool.true_or,Bool.or_true,Bool.or_false,Bool.false_or,Bool.and_true,Bool.true_and,Bool.and_false,Bool.false_and,Bool.false_eq_true,false_implies,true_and,and_true,implies_true,bne_self_eq_false,beq_self_eq_true,reduceCtorEq]
 refine zhF (fun _=>zLM x a ⟨none,0,[]⟩ _ okx3 oka3 (nilk _) (Nat.zero_le _)) ?_
 simp (maxSteps:=2000000) only [go_sem,jq,jj,jy,jv,jk,jx,hca,niln,l2,Bool.not_true,Bool.not_false,Bool.true_or,Bool.or_true,Bool.or_false,Bool.false_or,Bool.and_true,Bool.true_and,Bool.and_false,Bool.false_and,Bool.false_eq_true,false_implies,true_and,and_true,implies_true,bne_self_eq_false,beq_self_eq_true,reduceCtorEq]
 refine zhF (fun _=>zMw x a _ okx3 oka3) ?_
 simp (maxSteps:=2000000) only [go_sem,jq,jj,jy,jv,jk,jx,hca,hd,Bool.not_true,Bool.not_false,Bool.true_or,Bool.or_true,Bool.or_false,Bool.false_or,Bool.and_true,Bool.true_and,Bool.and_false,Bool.false_and,Bool.false_eq_true,false_implies,true_and,and_true,implies_true,bne_self_eq_false,beq_self_eq_true,reduceCtorEq]
 refine zc9 rfl (fun hz=>?_) (fun hz=>?_)
 ·cases hz
 refine Wk ?_
 refine zhF (fun _=>zLL x a _ okx3 oka3) ?_
 simp (maxSteps:=2000000) only [go_sem,jq,jj,jy,jv,jk,jx,hca]
 repeat' first|refine zc8 ?_|(refine zc5 ?_;simp (maxSteps:=2000000) only [go_sem,jq,jj,jy,jv,jk,jx])|refine zc3 ?_
 refine zc9 rfl (fun hz=>?_) (fun hz=>?_)
 ·obtain ⟨r1,r2⟩:=l4 hz
  have q1:((r.l.length:Int) == 0)=true:=by rw [hrl,r1];rfl
  have q2:((ms.l.length:Int) == a.l.length)=true:=by rw [hml,r2,beq_self_eq_true]
  repeat' first|refine Wa ?_|(simp (maxSteps:=2000000) only [go_sem,jq,jj,jy,jv,jk,jx,q1,q2,Bool.not_true,Bool.not_false,Bool.true_or,Bool.or_true,Bool.or_false,Bool.false_or,Bool.and_true,Bool.true_and,Bool.and_false,Bool.false_and,Bool.false_eq_true,false_implies,true_and,and_true,implies_true,bne_self_eq_false,beq_self_eq_true,reduceCtorEq];try rfl)|refine Wb ?_|fail
 obtain ⟨r1,r2,r3,r4,r5⟩:=l5 hz
 have q1:((0:Int) < r.l.length)=True:=eq_true (by omega)
 have q2:(ms.l.length < a.l.length)=True:=eq_true (by omega)
 have q3:(0 < r.l.length)=True:=eq_true (by omega)
 repeat' first|refine zc8 ?_|(refine zc5 ?_;simp (maxSteps:=2000000) only [go_sem,jq,jj,jy,jv,jk,jx])|refine zc3 ?_
 (first|refine zie rfl ?_|refine zc4 rfl ?_)
 simp (maxSteps:=2000000) only [go_sem,jq,jj,jy,jv,jk,jx,q1,q3,decide_true,Bool.not_true,Bool.not_false,Bool.true_or,Bool.or_true,Bool.or_false,Bool.false_or,Bool.and_true,Bool.true_and,Bool.and_false,Bool.false_and,Bool.false_eq_true,false_implies,true_and,and_true,implies_true,bne_self_eq_false,beq_self_eq_true,reduceCtorEq]
 refine zhF (fun _=>zOm x a r _ okx3 oka3 okr3 zr) ?_
 simp (maxSteps:=2000000) only [go_sem,jq,jj,jy,jv,jk,jx,hca,er,r2,Bool.not_true,Bool.not_false,Bool.true_or,Bool.or_true,Bool.or_false,Bool.false_or,Bool.and_true,Bool.true_and,Bool.and_false,Bool.false_and,Bool.false_eq_true,false_implies,true_and,and_true,implies_true,bne_self_eq_false,beq_self_eq_true,reduceCtorEq]
 refine zhF (fun _=>zLM x a r _ okx3 oka3 okr3 zr) ?_
 simp (maxSteps:=2000000) only [go_sem,jq,jj,jy,jv,jk,jx,hca,er,r3,q2,decide_true,Bool.not_true,Bool.not_false,Bool.true_or,Bool.or_true,Bool.or_false,Bool.false_or,Bool.and_true,Bool.true_and,Bool.and_false,Bool.false_and,Bool.false_eq_true,false_implies,true_and,and_true,implies_true,bne_self_eq_false,beq_self_eq_true,reduceCtorEq]
 refine zkr (zJn a r _ oka3 okr3 zr) rfl ?_
 rintro v h4 le4 ⟨sc,rfl,esc,oksc,_⟩
 have hsl:sc.l.length=r.l.length:=by
  have e:=congrArg List.length esc
  rw [hca,er,r5,← hrl] at e
  rwa [znA] at e
 simp (maxSteps:=2000000) only [go_sem,jq,jj,jy,jv,jk,jx,hsl,Bool.not_true,Bool.not_false,Bool.true_or,Bool.or_true,Bool.or_false,Bool.false_or,Bool.and_true,Bool.true_and,Bool.and_false,Bool.false_and,Bool.false_eq_true,false_implies,true_and,and_true,implies_true,bne_self_eq_false,beq_self_eq_true,reduceCtorEq]
 exact Wk0
open Go Go.SL Go.RowKit Go.ChangeShapes Go.WideShapes Go.ChangeAt Go.Deep
theorem Tryz.own:ownKnob Tryz.prog.godebug=none:=by kernel_rfl
theorem Tryz.laidOut:laidOutB jV=true:=by kernel_rfl
set_option maxRecDepth 100000 in
theorem zRo (a0:Sl U8) (h:Hp) (oa0:a0.Ok h):Ct jV 11 [a0.val] h fun v h'=>v=.bool true:=by
 refine zdn (fun A W=>by simp) Tryz.func11 rfl rfl (by simp) fun W0=>?_
 refine Wk ?_
 refine zc9 rfl (fun hq=>?_) (fun hq=>?_)
 ·exact Wk0
 refine Wk ?_
 refine zkr (zRk a0 _ oa0) rfl ?_
 rintro v h1 le1 ⟨x,a,rfl,gx,ga,okx,oka⟩
 have hca:(Con.con a:List DCall)=a.l:=zAQ a
 have hc:=zQK gx ga
 have hcs:zLJ (Con.con x) a.l=(zKf (Con.con x) a.l).2.2:=rfl
 have hn6:=zPL hc
 refine Wk ?_
 refine zkr (zK3 x a _ okx oka) rfl ?_
 rintro v h2 le2 ⟨ch,rfl,ech,okch,_⟩
 have okx2:=Enc.mono (x:=x) le2 okx
 have oka2:=oka.mono le2
 rw [hca] at ech
 repeat' first|refine Wa ?_|(simp (maxSteps:=2000000) only [go_sem,jq,jj,jy,jv,jk,jx,hca];try rfl)|refine Wb ?_|fail
 refine zhF (fun _=>zAS x a _ okx2 oka2) ?_
 simp (maxSteps:=2000000) only [go_sem,jq,jj,jy,jv,jk,jx,hca,hc,Bool.not_true,Bool.not_false,Bool.true_or,Bool.or_true,Bool.or_false,Bool.false_or,Bool.and_true,Bool.true_and,Bool.and_false,Bool.false_and,Bool.false_eq_true,false_implies,true_and,and_true,implies_true,bne_self_eq_false,beq_self_eq_true,reduceCtorEq]
 refine zhF (fun _=>zLL x a _ okx2 oka2) ?_
 simp (maxSteps:=2000000) only [go_sem,jq,jj,jy,jv,jk,jx,hca,hcs,Bool.not_true,Bool.not_false,Bool.true_or,Bool.or_true,Bool.or_false,Bool.false_or,Bool.and_true,Bool.true_and,Bool.and_false,Bool.false_and,Bool.false_eq_true,false_implies,true_and,and_true,implies_true,bne_self_eq_false,beq_self_eq_true,reduceCtorEq]
 refine zc9 rfl (fun hz=>?_) (fun hz=>?_)
 ·cases hz
 refine Wk ?_
 refine zEE (ι:=Nat × List Int × Hp) (fun i=>⟨[(0,true,.c (.v a0.val)),(3,true,.c (.p 0 0)),(4,true,.c (.v a.val)),(5,true,.c (.v ch.val)),(6,true,.c (.v (.int .i64 (zKf (Con.con x) a.l).2.1))),(7,true,.c (.v (.bool (zKf (Con.con x) a.l).2.2))),(8,true,.c (.s 1)),(43,true,.c (.v (.int .i64 a.l.length))),(44,true,.c (.v (.int .i64 i.1)))],[(0,.box 58 [.v (.int .i64 x.forecast.tide.mean),.v x.forecast.tide.parts.val,.v x.forecast.surges.val,.v x.chart.points.val,.v x.chart.segments.val,.v x.fleet.val,.v (.int .i64 x.regime.gap),.v (.bool x.regime.noMeet),.v (.int .i64 x.crew.tugs),.v (.int .i64 x.crew.pilots),.v (.int .i64 x.crew.rest),.v x.crew.moves.val]),(1,.row 3 1 i.2.1.length (i.2.1.flatMap Enc.enc))],i.2.2,2⟩)
  (fun i=>i.1≤a.l.length∧i.2.1.length=i.1∧(∀ y ∈ i.2.1,0≤y∧y < 4)∧h2.le i.2.2) (fun i=>a.l.length - i.1) (0,[],h2) ⟨Nat.zero_le _,rfl,(fun y hy=>by cases hy),Hp.le_refl _⟩ [0,1] ?_ ?_
 ·refine Evs ?_
  repeat' first|exact rfl|exact trivial|assumption|decide|refine And.intro ?_ ?_
 rintro ⟨i,l,hk⟩ ⟨hi,hl,hy,hle⟩
 simp only at hi hl hy hle
 refine Wk ?_
 refine zc9 rfl (fun hd=>?_) (fun hd=>?_)
 ·have hlt:i < a.l.length:=by have:=of_decide_eq_true hd;omega
  have hw:IntKind.i64.wrap (90+IntKind.i64.wrap (2 * (i:Int)))=((90+2 * i:Nat):Int):=by rw [zjz (n:=2 * (i:Int)) (by omega),zjz (by omega)];omega
  repeat' first|refine zc8 ?_|(refine zc5 ?_;simp (maxSteps:=2000000) only [go_sem,jq,jj,jy,jv,jk,jx])|refine zc3 ?_
  (first|refine zie rfl ?_|refine zc4 rfl ?_|(refine zc3 ?_;first|refine zie rfl ?_|refine zc4 rfl ?_));simp (maxSteps:=2000000) only [go_sem,jq,jj,jy,jv,jk,jx]
  (first|refine zie rfl ?_|refine zc4 rfl ?_)
  simp (maxSteps:=2000000) only [go_sem,jq,jj,jy,jv,jk,jx,hw]
  refine zkr (zRm a0 (90+2 * i) _ (oa0.mono (Hp.le_trans (Hp.le_trans le1 le2) hle)) (by omega)) rfl ?_
  rintro v h9 le9 ⟨k,rfl,k0,k1⟩
  refine Evs ?_
  refine ⟨by decide,by simp only [maxLen];omega,by omega,?_⟩
  repeat' first|refine zc8 ?_|(refine zc5 ?_;simp (maxSteps:=2000000) only [go_sem,jq,jj,jy,jv,jk,jx])|refine zc3 ?_
  (first|refine zie rfl ?_|refine zc4 rfl ?_|(refine zc3 ?_;first|refine zie rfl ?_|refine zc4 rfl ?_));simp (maxSteps:=2000000) only [go_sem,jq,jj,jy,jv,jk,jx]
  have hk4:=zQj (m:=4) k0 (by decide)
  refine ⟨(i+1,l ++ [Int.tmod k 4],h9),[0,3],⟨hlt,by rw [List.length_append,List.length_singleton,hl],fun y h9=>?_,Hp.le_trans hle le9⟩,(by show a.l.length - (i+1) < a.l.length - i;omega),?_⟩
  ·rcases List.mem_append.1 h9 with h9|h9
   ·exact hy y h9
   ·rw [List.mem_singleton.1 h9];exact hk4
  simp (maxSteps:=2000000) only [go_sem,jq,jj,jy,jv,jk,jx,List.length_append,List.flatMap_append]
  repeat' first|exact zjB (zjA hlt (by omega))|exact rfl|exact trivial|assumption|decide|refine And.intro ?_ ?_
 refine zc6 ?_
 refine Evs ?_
 refine zCP 1 l rfl rfl rfl rfl fun s h3 e3 R3 f3 le3 _=>?_
 have le3:hk.le h3:=le3
 have oks:s.Ok h3:=R3.ok (by decide) fun y h9=>by
  rw [e3] at h9
  have:=hy y h9
  show I64 y
  unfold I64;omega
 have okx3:=Enc.mono (x:=x) (Hp.le_trans hle le3) okx2
 have oka3:=(oka2.mono hle).mono le3
 have okch3:=(okch.mono hle).mono le3
 have hcs3:Con.con s=l:=by rw [con_ints,e3]
 obtain ⟨p1,p2⟩:=zPN hc l
 refine Wk ?_
 refine zkr (zP1 x a s _ okx3 oka3 oks) rfl ?_
 rintro v h4 le4 ⟨q,rfl,eq,okq,_⟩
 rw [hca,hcs3] at eq
 have okx4:=Enc.mono (x:=x) le4 okx3
 have oka4:=oka3.mono le4
 have okch4:=okch3.mono le4
 have zq:Sz.sz (Con.con q)≤1048576:=by rw [eq];exact zP0 _ _ _
 simp (maxSteps:=2000000) only [go_sem,jq,jj,jy,jv,jk,jx,hca,hcs3]
 repeat' first|refine zc8 ?_|(refine zc5 ?_;simp (maxSteps:=2000000) only [go_sem,jq,jj,jy,jv,jk,jx])|refine zc3 ?_
 refine zEC (ι:=Bool) (fun f=>⟨[(3,true,.c (.p 0 0)),(4,true,.c (.v a.val)),(5,true,.c (.v ch.val)),(6,true,.c (.v (.int .i64 (zKf (Con.con x) a.l).2.1))),(7,true,.c (.v (.bool (zKf (Con.con x) a.l).2.2))),(10,true,.c (.v q.val)),(12,true,.c (.v (.bool f)))],[(0,.box 58 [.v (.int .i64 x.forecast.tide.mean),.v x.forecast.tide.parts.val,.v x.forecast.surges.val,.v x.chart.points.val,.v x.chart.segments.val,.v x.fleet.val,.v (.int .i64 x.regime.gap),.v (.bool x.regime.noMeet),.v (.int .i64 x.crew.tugs),.v (.int .i64 x.crew.pilots),.v (.int .i64 x.crew.rest),.v x.crew.moves.val])],h4,1⟩)
  (fun f=>f=((zO8 (Con.con x) a.l l).2 && zO3 (Con.con x) a.l (zO8 (Con.con x) a.l l).1)) ?_ ?_
 ·refine zc4 rfl ?_
  refine Evs ?_
  refine zhF (fun _=>zO6 x a q _ okx4 oka4 okq zq) ?_
  simp (maxSteps:=2000000) only [go_sem,jq,jj,jy,jv,jk,jx,hca,eq]
  refine ⟨_,[0],rfl,?_⟩
  repeat' first|exact rfl|exact trivial|assumption|decide|refine And.intro ?_ ?_
 intro f hf
 repeat' first|refine zc8 ?_|(refine zc5 ?_;simp (maxSteps:=2000000) only [go_sem,jq,jj,jy,jv,jk,jx])|refine zc3 ?_
 (first|refine zie rfl ?_|refine zc4 rfl ?_|(refine zc3 ?_;first|refine zie rfl ?_|refine zc4 rfl ?_));simp (maxSteps:=2000000) only [go_sem,jq,jj,jy,jv,jk,jx]
 repeat' first|refine zc8 ?_|(refine zc5 ?_;simp (maxSteps:=2000000) only [go_sem,jq,jj,jy,jv,jk,jx])|refine zc3 ?_
 refine zc9 rfl (fun hz=>?_) (fun hz=>?_)
 ·rw [Bool.not_eq_true'] at hz
  obtain ⟨b1,b2⟩:=p1 hz
  have hcl:ch.l=[]:=by rw [← con_ints,ech,b1]
  have hch:((ch.l.length:Int) == 0)=true:=by rw [hcl];rfl
  have hff:f=false:=by
   cases hg:f with
   | false=>rfl
   | true=>rw [hf,jJ] at hg;exact (b2 hg).elim
  rw [hff]
  repeat' first|refine Wa ?_|(simp (maxSteps:=2000000) only [go_sem,jq,jj,jy,jv,jk,jx,hch,Bool.not_true,Bool.not_false,Bool.true_or,Bool.or_true,Bool.or_false,Bool.false_or,Bool.and_true,Bool.true_and,Bool.and_false,Bool.false_and,Bool.false_eq_true,false_implies,true_and,and_true,implies_true,bne_self_eq_false,beq_self_eq_true,reduceCtorEq];try rfl)|refine Wb ?_|fail
 rw [Bool.not_eq_false'] at hz
 obtain ⟨b1,b2,b3,b4,b5⟩:=p2 hz
 repeat' first|refine zc8 ?_|(refine zc5 ?_;simp (maxSteps:=2000000) only [go_sem,jq,jj,jy,jv,jk,jx])|refine zc3 ?_
 refine Wk ?_
 refine zkr (zP1 x a ch _ okx4 oka4 okch4) rfl ?_
 rintro v h5 le5 ⟨p,rfl,ep,okp,_⟩
 rw [hca,ech] at ep
 have okx5:=Enc.mono (x:=x) le5 okx4
 have oka5:=oka4.mono le5
 have okq5:=okq.mono le5
 have zp:Sz.sz (Con.con p)≤1048576:=by rw [ep];exact zP0 _ _ _
 simp (maxSteps:=2000000) only [go_sem,jq,jj,jy,jv,jk,jx,hca,ech,b1]
 repeat' first|refine zc8 ?_|(refine zc5 ?_;simp (maxSteps:=2000000) only [go_sem,jq,jj,jy,jv,jk,jx])|refine zc3 ?_
 (first|refine zie rfl ?_|refine zc4 rfl ?_)
 simp (maxSteps:=2000000) only [go_sem,jq,jj,jy,jv,jk,jx,Bool.not_true,Bool.not_false,Bool.true_or,Bool.or_true,Bool.or_false,Bool.false_or,Bool.and_true,Bool.true_and,Bool.and_false,Bool.false_and,Bool.false_eq_true,false_implies,true_and,and_true,implies_true,bne_self_eq_false,beq_self_eq_true,reduceCtorEq]
 refine zhF (fun _=>zO6 x a p _ okx5 oka5 okp zp) ?_
 simp (maxSteps:=2000000) only [go_sem,jq,jj,jy,jv,jk,jx,hca,ep,b2,Bool.not_true,Bool.not_false,Bool.true_or,Bool.or_true,Bool.or_false,Bool.false_or,Bool.and_true,Bool.true_and,Bool.and_false,Bool.false_and,Bool.false_eq_true,false_implies,true_and,and_true,implies_true,bne_self_eq_false,beq_self_eq_true,reduceCtorEq]
 refine zhF (fun _=>zzs p _ okp) ?_
 cases f with
 | false =>
  simp (maxSteps:=2000000) only [go_sem,jq,jj,jy,jv,jk,jx,ep,b3,Bool.not_true,Bool.not_false,Bool.true_or,Bool.or_true,Bool.or_false,Bool.false_or,Bool.and_true,Bool.true_and,Bool.and_false,Bool.false_and,Bool.false_eq_true,false_implies,true_and,and_true,implies_true,bne_self_eq_false,beq_self_eq_true,reduceCtorEq]
  refine zhF (V:=.int .i64 0) (fun hg=>by cases hg) ?_
  simp (maxSteps:=2000000) only [go_sem,jq,jj,jy,jv,jk,jx,Bool.not_true,Bool.not_false,Bool.true_or,Bool.or_true,Bool.or_false,Bool.false_or,Bool.and_true,Bool.true_and,Bool.and_false,Bool.false_and,Bool.false_eq_true,false_implies,true_and,and_true,implies_true,bne_self_eq_false,beq_self_eq_true,reduceCtorEq]
  ·refine zkr (zO2 p _ okp zp) rfl ?_
   rintro v h6 le6 ⟨cs,rfl,ecs,okcs,_⟩
   have hcl:cs.l.length=a.l.length:=by
    have e:=congrArg List.length ecs
    rw [zJo,List.length_map,ep,b5] at e
    rwa [znA] at e
   simp (maxSteps:=2000000) only [go_sem,jq,jj,jy,jv,jk,jx,hcl,Bool.not_true,Bool.not_false,Bool.true_or,Bool.or_true,Bool.or_false,Bool.false_or,Bool.and_true,Bool.true_and,Bool.and_false,Bool.false_and,Bool.false_eq_true,false_implies,true_and,and_true,implies_true,bne_self_eq_false,beq_self_eq_true,reduceCtorEq]
   exact Wk0
 | true =>
  have hf2:=hf.symm
  rw [jJ] at hf2
  have b6:=b4 hf2.1 hf2.2
  have q7:((zKf (Con.con x) a.l).2.1≤zzp (zO8 (Con.con x) a.l l).1)=True:=eq_true b6
  simp (maxSteps:=2000000) only [go_sem,jq,jj,jy,jv,jk,jx,ep,b3,Bool.not_true,Bool.not_false,Bool.true_or,Bool.or_true,Bool.or_false,Bool.false_or,Bool.and_true,Bool.true_and,Bool.and_false,Bool.false_and,Bool.false_eq_true,false_implies,true_and,and_true,implies_true,bne_self_eq_false,beq_self_eq_true,reduceCtorEq]
  refine zhF (fun _=>zzs q _ okq5) ?_
  simp (maxSteps:=2000000) only [go_sem,jq,jj,jy,jv,jk,jx,eq,q7,decide_true,Bool.not_true,Bool.not_false,Bool.true_or,Bool.or_true,Bool.or_false,Bool.false_or,Bool.and_true,Bool.true_and,Bool.and_false,Bool.false_and,Bool.false_eq_true,false_implies,true_and,and_true,implies_true,bne_self_eq_false,beq_self_eq_true,reduceCtorEq]
  ·refine zkr (zO2 p _ okp zp) rfl ?_
   rintro v h6 le6 ⟨cs,rfl,ecs,okcs,_⟩
   have hcl:cs.l.length=a.l.length:=by
    have e:=congrArg List.length ecs
    rw [zJo,List.length_map,ep,b5] at e
    rwa [znA] at e
   simp (maxSteps:=2000000) only [go_sem,jq,jj,jy,jv,jk,jx,hcl,Bool.not_true,Bool.not_false,Bool.true_or,Bool.or_true,Bool.or_false,Bool.false_or,Bool.and_true,Bool.true_and,Bool.and_false,Bool.false_and,Bool.false_eq_true,false_implies,true_and,and_true,implies_true,bne_self_eq_false,beq_self_eq_true,reduceCtorEq]
   exact Wk0
theorem zRp {x:DHarbour} {c:DCall}:-1≤zM3 (Con.con x) c∧zM3 (Con.con x) c≤2880:=by
 have hA:∀ p ∈ zFU (Con.con x) c,0≤p.cost∧p.cost≤2880:=fun p hp=>zGr p hp
 rw [show zM3 (Con.con x) c=flr (zFU (Con.con x) c) from rfl]
 rcases zPU hA with ⟨_,e⟩|⟨e,⟨o,h1,h2⟩,_⟩
 ·rw [e];exact ⟨by decide,by decide⟩
 ·have:=hA o h1;omega
set_option maxRecDepth 100000 in
theorem zRq (a0:Sl U8) (h:Hp) (oa0:a0.Ok h):Ct jV 12 [a0.val] h fun v h'=>v=.bool true:=by
 have n1:Int.toNat (1:Int)=1:=rfl
 have o1:(0:Int)≤1:=by decide
 have n2:Int.toNat (2:Int)=2:=rfl
 have o2:(0:Int)≤2:=by decide
 refine zdn (fun A W=>by simp) Tryz.func12 rfl rfl (by simp) fun W0=>?_
 refine Wk ?_
 refine zc9 rfl (fun hq=>?_) (fun hq=>?_)
 ·exact Wk0
 refine Wk ?_
 refine zkr (zRk a0 _ oa0) rfl ?_
 rintro v h1 le1 ⟨x,a,rfl,gx,ga,okx,oka⟩
 have hca:(Con.con a:List DCall)=a.l:=zAQ a
 have hc:=zQK gx ga
 have h0:0 < a.l.length:=ga.1.1
 have ham:=oka.max
 have h0i:(0:Int) < a.l.length:=by omega
 have hat0:=zkT oka h0
 have hat0':=hat0
 simp only [Nat.zero_mul,zx1,zx2] at hat0'
 have oka1:=oka
 refine Wk ?_
 refine zhF (fun _=>zAS x a _ okx oka) ?_
 simp only [go_sem,jq,jj,jy,jv,jk,jx,hca,hc,Bool.not_true,Bool.not_false,Bool.true_or,Bool.or_true,Bool.or_false,Bool.false_or,Bool.and_true,Bool.true_and,Bool.and_false,Bool.false_and,Bool.false_eq_true,false_implies,true_and,and_true,implies_true,bne_self_eq_false,beq_self_eq_true,reduceCtorEq]
 refine zc9 rfl (fun hz=>?_) (fun hz=>?_)
 ·cases hz
 refine Wk ?_
 refine zc9 rfl (fun hz=>?_) (fun hz=>?_)
 ·have q0:(-1≤zM7 (Con.con x) (Con.con a.l[0]) (Con.con a.l[0]))=True:=eq_true (by
   rcases zPS (c:=(Con.con x:zOw).chart) (r:=(Con.con x:zOw).regime) (a:=zFU (Con.con x) a.l[0]) (b:=zFU (Con.con x) a.l[0]) (fun p hp=>zGr p hp) (fun p hp=>zGr p hp) with ⟨e,_⟩|⟨e,_⟩
   ·rw [show zM7 (Con.con x) (Con.con a.l[0]) (Con.con a.l[0])=_ from e];decide
   ·exact Int.le_trans (by decide) e)
  repeat' first|refine zc8 ?_|(refine zc5 ?_;simp only [go_sem,jq,jj,jy,jv,jk,jx])|refine zc3 ?_
  refine zyW rfl ?_
  refine U_t [0,1,4,2,5,3,6] rfl ?_
  simp only [go_sem,jq,jj,jy,jv,jk,jx,q0,decide_true,hat0,hat0',oka1.some h0,h0,h0i,Int.toNat_zero,Nat.zero_mul,Int.le_refl,zx1,zx2,Bool.not_true,Bool.not_false,Bool.true_or,Bool.or_true,Bool.or_false,Bool.false_or,Bool.and_true,Bool.true_and,Bool.and_false,Bool.false_and,Bool.false_eq_true,false_implies,true_and,and_true,implies_true,bne_self_eq_false,beq_self_eq_true,reduceCtorEq]
  refine U_1 7 0 [] rfl rfl ?_
  simp only [go_sem,jq,jj,jy,jv,jk,jx,q0,decide_true,hat0,hat0',oka1.some h0,h0,h0i,Int.toNat_zero,Nat.zero_mul,Int.le_refl,zx1,zx2,Bool.not_true,Bool.not_false,Bool.true_or,Bool.or_true,Bool.or_false,Bool.false_or,Bool.and_true,Bool.true_and,Bool.and_false,Bool.false_and,Bool.false_eq_true,false_implies,true_and,and_true,implies_true,bne_self_eq_false,beq_self_eq_true,reduceCtorEq]
  refine zhF (fun _=>zNg x a.l[0] a.l[0] _ okx (oka.el h0) (oka.el h0)) ?_
  simp only [go_sem,jq,jj,jy,jv,jk,jx,q0,decide_true]
  refine U_t [8,9] rfl ?_
  simp only [go_sem,jq,jj,jy,jv,jk,jx,q0,decide_true,hat0,hat0',oka1.some h0,h0,h0i,Int.toNat_zero,Nat.zero_mul,Int.le_refl,zx1,zx2,Bool.not_true,Bool.not_false,Bool.true_or,Bool.or_true,Bool.or_false,Bool.false_or,Bool.and_true,Bool.true_and,Bool.and_false,Bool.false_and,Bool.false_eq_true,false_implies,true_and,and_true,implies_true,bne_self_eq_false,beq_self_eq_true,reduceCtorEq]
  refine U_d ?_
  refine Wk ?_
  exact congrArg Value.bool (decide_eq_true (of_eq_true q0))
 have g1:1 < a.l.length:=by have:=of_decide_eq_false hz;omega
 have g1i:(1:Int) < a.l.length:=by omega
 have hcap2:2≤a.cap:=by have:=oka.1;omega
 have hcap2i:(2:Int)≤a.cap:=by omega
 have hat1:=zkT oka g1
 simp only [Nat.one_mul] at hat1
 have hat1':=hat1
 simp only [Addr.add,show ((5:Nat)=0)=False from eq_false (by decide),if_false] at hat1'
 have hsp:a.l=a.l[0] :: a.l[1] :: a.l.drop 2:=by
  rw [show a.l.drop 2=a.l.drop (1+1) from rfl,← List.drop_eq_getElem_cons g1,show a.l.drop 1=a.l.drop (0+1) from rfl,← List.drop_eq_getElem_cons h0];rfl
 have hto:(Con.con (a.to 2):List DCall)=[a.l[0],a.l[1]]:=by
  rw [zAQ]
  show a.l.take 2=_
  conv=>lhs;rw [hsp]
  rfl
 rw [hsp] at hc
 obtain ⟨k1,k2⟩:=zPW hc
 obtain ⟨n,hn⟩:∃ n,zM7 (Con.con x) (Con.con a.l[0]) (Con.con a.l[1])=n:=⟨_,rfl⟩
 have hn2:zM7 (Con.con x) (Con.con a.l[1]) (Con.con a.l[0])=n:=by rw [← hn];exact k1.symm
 obtain ⟨ok,hok⟩:∃ ok,(zKf (Con.con x) [a.l[0],a.l[1]]).2.2=ok:=⟨_,rfl⟩
 obtain ⟨co,hco⟩:∃ co,(zKf (Con.con x) [a.l[0],a.l[1]]).2.1=co:=⟨_,rfl⟩
 rw [hok,hco,show zM7 (Con.con x) a.l[0] a.l[1]=n from hn] at k2
 repeat' first|refine zc8 ?_|(refine zc5 ?_;simp only [go_sem,jq,jj,jy,jv,jk,jx])|refine zc3 ?_
 refine zyW rfl ?_
 refine U_t [0,1,4,2,5,3,6] rfl ?_
 simp only [go_sem,jq,jj,jy,jv,jk,jx,hat0,hat1,hat0',hat1',oka1.some h0,h0,g1,h0i,g1i,Int.toNat_zero,n1,o1,Nat.zero_mul,Nat.one_mul,Int.le_refl,zx1,zx2,Bool.not_true,Bool.not_false,Bool.true_or,Bool.or_true,Bool.or_false,Bool.false_or,Bool.and_true,Bool.true_and,Bool.and_false,Bool.false_and,Bool.false_eq_true,false_implies,true_and,and_true,implies_true,bne_self_eq_false,beq_self_eq_true,reduceCtorEq]
 refine U_1 7 0 [] rfl rfl ?_
 simp only [go_sem,jq,jj,jy,jv,jk,jx,hat0,hat1,hat0',hat1',oka1.some h0,h0,g1,h0i,g1i,Int.toNat_zero,n1,o1,Nat.zero_mul,Nat.one_mul,Int.le_refl,zx1,zx2,Bool.not_true,Bool.not_false,Bool.true_or,Bool.or_true,Bool.or_false,Bool.false_or,Bool.and_true,Bool.true_and,Bool.and_false,Bool.false_and,Bool.false_eq_true,false_implies,true_and,and_true,implies_true,bne_self_eq_false,beq_self_eq_true,reduceCtorEq]
 refine zhF (fun _=>zNg x a.l[0] a.l[1] _ okx (oka.el h0) (oka.el g1)) ?_
 simp only [go_sem,jq,jj,jy,jv,jk,jx,hn]
 refine U_t [8] rfl ?_
 simp only [go_sem,jq,jj,jy,jv,jk,jx,hat0,hat1,hat0',hat1',oka1.some h0,h0,g1,h0i,g1i,Int.toNat_zero,n1,o1,Nat.zero_mul,Nat.one_mul,Int.le_refl,zx1,zx2,Bool.not_true,Bool.not_false,Bool.true_or,Bool.or_true,Bool.or_false,Bool.false_or,Bool.and_true,Bool.true_and,Bool.and_false,Bool.false_and,Bool.false_eq_true,false_implies,true_and,and_true,implies_true,bne_self_eq_false,beq_self_eq_true,reduceCtorEq]
 refine U_d ?_
 repeat' first|refine zc8 ?_|(refine zc5 ?_;simp only [go_sem,jq,jj,jy,jv,jk,jx])|refine zc3 ?_
 refine zyW rfl ?_
 refine U_t [0,1] rfl ?_
 simp only [go_sem,jq,jj,jy,jv,jk,jx,n2,o2,hcap2,hcap2i,ite_self,Nat.sub_zero,hat0,hat1,hat0',hat1',oka1.some h0,h0,g1,h0i,g1i,Int.toNat_zero,n1,o1,Nat.zero_mul,Nat.one_mul,Int.le_refl,zx1,zx2,Bool.not_true,Bool.not_false,Bool.true_or,Bool.or_true,Bool.or_false,Bool.false_or,Bool.and_true,Bool.true_and,Bool.and_false,Bool.false_and,Bool.false_eq_true,false_implies,true_and,and_true,implies_true,bne_self_eq_false,beq_self_eq_true,reduceCtorEq]
 refine U_1 2 0 [0] rfl rfl ?_
 simp only [go_sem,jq,jj,jy,jv,jk,jx,n2,o2,hcap2,hcap2i,ite_self,Nat.sub_zero,hat0,hat1,hat0',hat1',oka1.some h0,h0,g1,h0i,g1i,Int.toNat_zero,n1,o1,Nat.zero_mul,Nat.one_mul,Int.le_refl,zx1,zx2,Bool.not_true,Bool.not_false,Bool.true_or,Bool.or_true,Bool.or_false,Bool.false_or,Bool.and_true,Bool.true_and,Bool.and_false,Bool.false_and,Bool.false_eq_true,false_implies,true_and,and_true,implies_true,bne_self_eq_false,beq_self_eq_true,reduceCtorEq]
 rw [zx3 (show 2≤a.l.length by omega)]
 refine U_1 3 0 [] rfl rfl ?_
 simp only [go_sem,jq,jj,jy,jv,jk,jx,n2,o2,hcap2,hcap2i,ite_self,Nat.sub_zero,hat0,hat1,hat0',hat1',oka1.some h0,h0,g1,h0i,g1i,Int.toNat_zero,n1,o1,Nat.zero_mul,Nat.one_mul,Int.le_refl,zx1,zx2,Bool.not_true,Bool.not_false,Bool.true_or,Bool.or_true,Bool.or_false,Bool.false_or,Bool.and_true,Bool.true_and,Bool.and_false,Bool.false_and,Bool.false_eq_true,false_implies,true_and,and_true,implies_true,bne_self_eq_false,beq_self_eq_true,reduceCtorEq]
 refine zkr (zK3 x (a.to 2) _ okx (Sl.to_ok oka 2)) rfl ?_
 rintro v h2 le2 ⟨ch,rfl,ech,okch,_⟩
 rw [hto]
 simp only [go_sem,jq,jj,jy,jv,jk,jx,hok,hco]
 refine U_t [4,5,6,7,8,9,10] rfl ?_
 simp only [go_sem,jq,jj,jy,jv,jk,jx,n2,o2,hcap2,hcap2i,ite_self,Nat.sub_zero,hat0,hat1,hat0',hat1',oka1.some h0,h0,g1,h0i,g1i,Int.toNat_zero,n1,o1,Nat.zero_mul,Nat.one_mul,Int.le_refl,zx1,zx2,Bool.not_true,Bool.not_false,Bool.true_or,Bool.or_true,Bool.or_false,Bool.false_or,Bool.and_true,Bool.true_and,Bool.and_false,Bool.false_and,Bool.false_eq_true,false_implies,true_and,and_true,implies_true,bne_self_eq_false,beq_self_eq_true,reduceCtorEq]
 refine U_d ?_
 have okx2:=Enc.mono (x:=x) le2 okx
 have oka2:=oka.mono le2
 have hat0:=zkT oka2 h0
 have hat0':=hat0
 simp only [Nat.zero_mul,zx1,zx2] at hat0'
 have hat1:=zkT oka2 g1
 simp only [Nat.one_mul] at hat1
 have hat1':=hat1
 simp only [Addr.add,show ((5:Nat)=0)=False from eq_false (by decide),if_false] at hat1'
 repeat' first|refine zc8 ?_|(refine zc5 ?_;simp only [go_sem,jq,jj,jy,jv,jk,jx])|refine zc3 ?_
 rcases k2 with ⟨k2,k3⟩|⟨k2,k3,k4⟩
 ·have qn:(n < 0)=True:=eq_true k2
  have qz:(0≤n)=False:=eq_false (by omega)
  subst k3
  refine zyW rfl ?_
  refine U_t [0,1,2,5,3,6,4,7] rfl ?_
  simp only [go_sem,jq,jj,jy,jv,jk,jx,qn,qz,decide_true,decide_false,hat0,hat1,hat0',hat1',oka2.some h0,h0,g1,h0i,g1i,Int.toNat_zero,n1,o1,Nat.zero_mul,Nat.one_mul,Int.le_refl,zx1,zx2,Bool.not_true,Bool.not_false,Bool.true_or,Bool.or_true,Bool.or_false,Bool.false_or,Bool.and_true,Bool.true_and,Bool.and_false,Bool.false_and,Bool.false_eq_true,false_implies,true_and,and_true,implies_true,bne_self_eq_false,beq_self_eq_true,reduceCtorEq]
  refine U_1 8 0 [] rfl rfl ?_
  simp only [go_sem,jq,jj,jy,jv,jk,jx,qn,qz,decide_true,decide_false,hat0,hat1,hat0',hat1',oka2.some h0,h0,g1,h0i,g1i,Int.toNat_zero,n1,o1,Nat.zero_mul,Nat.one_mul,Int.le_refl,zx1,zx2,Bool.not_true,Bool.not_false,Bool.true_or,Bool.or_true,Bool.or_false,Bool.false_or,Bool.and_true,Bool.true_and,Bool.and_false,Bool.false_and,Bool.false_eq_true,false_implies,true_and,and_true,implies_true,bne_self_eq_false,beq_self_eq_true,reduceCtorEq]
  refine zhF (fun _=>zNg x a.l[1] a.l[0] _ okx2 (oka2.el g1) (oka2.el h0)) ?_
  simp only [go_sem,jq,jj,jy,jv,jk,jx,hn2,Bool.not_true,Bool.not_false,Bool.true_or,Bool.or_true,Bool.or_false,Bool.false_or,Bool.and_true,Bool.true_and,Bool.and_false,Bool.false_and,Bool.false_eq_true,false_implies,true_and,and_true,implies_true,bne_self_eq_false,beq_self_eq_true,reduceCtorEq]
  refine U_t [9,10,11,12,13,14,15,16,17,18,19,20,21,22,23,27,28,24,29,25,30] rfl ?_
  simp only [go_sem,jq,jj,jy,jv,jk,jx,qn,qz,decide_true,decide_false,hat0,hat1,hat0',hat1',oka2.some h0,h0,g1,h0i,g1i,Int.toNat_zero,n1,o1,Nat.zero_mul,Nat.one_mul,Int.le_refl,zx1,zx2,Bool.not_true,Bool.not_false,Bool.true_or,Bool.or_true,Bool.or_false,Bool.false_or,Bool.and_true,Bool.true_and,Bool.and_false,Bool.false_and,Bool.false_eq_true,false_implies,true_and,and_true,implies_true,bne_self_eq_false,beq_self_eq_true,reduceCtorEq]
  refine U_1 26 0 [30,29,27] rfl rfl ?_
  simp only [go_sem,jq,jj,jy,jv,jk,jx,qn,qz,decide_true,decide_false,hat0,hat1,hat0',hat1',oka2.some h0,h0,g1,h0i,g1i,Int.toNat_zero,n1,o1,Nat.zero_mul,Nat.one_mul,Int.le_refl,zx1,zx2,Bool.not_true,Bool.not_false,Bool.true_or,Bool.or_true,Bool.or_false,Bool.false_or,Bool.and_true,Bool.true_and,Bool.and_false,Bool.false_and,Bool.false_eq_true,false_implies,true_and,and_true,implies_true,bne_self_eq_false,beq_self_eq_true,reduceCtorEq]
  refine zhF (V:=.int .i64 0) (fun hg=>by cases hg) ?_
  simp only [go_sem,jq,jj,jy,jv,jk,jx,qn,qz,decide_true,decide_false,hat0,hat1,hat0',hat1',oka2.some h0,h0,g1,h0i,g1i,Int.toNat_zero,n1,o1,Nat.zero_mul,Nat.one_mul,Int.le_refl,zx1,zx2,Bool.not_true,Bool.not_false,Bool.true_or,Bool.or_true,Bool.or_false,Bool.false_or,Bool.and_true,Bool.true_and,Bool.and_false,Bool.false_and,Bool.false_eq_true,false_implies,true_and,and_true,implies_true,bne_self_eq_false,beq_self_eq_true,reduceCtorEq]
  refine U_1 31 0 [] rfl rfl ?_
  simp only [go_sem,jq,jj,jy,jv,jk,jx,qn,qz,decide_true,decide_false,hat0,hat1,hat0',hat1',oka2.some h0,h0,g1,h0i,g1i,Int.toNat_zero,n1,o1,Nat.zero_mul,Nat.one_mul,Int.le_refl,zx1,zx2,Bool.not_true,Bool.not_false,Bool.true_or,Bool.or_true,Bool.or_false,Bool.false_or,Bool.and_true,Bool.true_and,Bool.and_false,Bool.false_and,Bool.false_eq_true,false_implies,true_and,and_true,implies_true,bne_self_eq_false,beq_self_eq_true,reduceCtorEq]
  refine zhF (V:=.int .i64 0) (fun hg=>by cases hg) ?_
  simp only [go_sem,jq,jj,jy,jv,jk,jx,qn,qz,decide_true,decide_false,hat0,hat1,hat0',hat1',oka2.some h0,h0,g1,h0i,g1i,Int.toNat_zero,n1,o1,Nat.zero_mul,Nat.one_mul,Int.le_refl,zx1,zx2,Bool.not_true,Bool.not_false,Bool.true_or,Bool.or_true,Bool.or_false,Bool.false_or,Bool.and_true,Bool.true_and,Bool.and_false,Bool.false_and,Bool.false_eq_true,false_implies,true_and,and_true,implies_true,bne_self_eq_false,beq_self_eq_true,reduceCtorEq]
  refine U_t [32,33,34,35,36,37,38,39,40,41,42,43,44,45,46] rfl ?_
  simp only [go_sem,jq,jj,jy,jv,jk,jx,qn,qz,decide_true,decide_false,hat0,hat1,hat0',hat1',oka2.some h0,h0,g1,h0i,g1i,Int.toNat_zero,n1,o1,Nat.zero_mul,Nat.one_mul,Int.le_refl,zx1,zx2,Bool.not_true,Bool.not_false,Bool.true_or,Bool.or_true,Bool.or_false,Bool.false_or,Bool.and_true,Bool.true_and,Bool.and_false,Bool.false_and,Bool.false_eq_true,false_implies,true_and,and_true,implies_true,bne_self_eq_false,beq_self_eq_true,reduceCtorEq]
  refine U_d ?_
  exact Wk0
 have qn:(n < 0)=False:=eq_false (by omega)
 have qz:(0≤n)=True:=eq_true k2
 have qs:(IntKind.i64.wrap (zM3 (Con.con x) (Con.con a.l[0])+zM3 (Con.con x) (Con.con a.l[1]))≤n)=True:=eq_true (by
  show IntKind.i64.wrap (zM3 (Con.con x) a.l[0]+zM3 (Con.con x) a.l[1])≤n
  have b0:=zRp (x:=x) (c:=a.l[0])
  have b1:=zRp (x:=x) (c:=a.l[1])
  rw [zjz (by omega)]
  exact k3)
 cases ok with
 | false =>
  have qc:True:=trivial
  refine zyW rfl ?_
  refine U_t [0,1,2,5,3,6,4,7] rfl ?_
  simp only [go_sem,jq,jj,jy,jv,jk,jx,qn,qz,qs,qc,decide_true,decide_false,hat0,hat1,hat0',hat1',oka2.some h0,h0,g1,h0i,g1i,Int.toNat_zero,n1,o1,Nat.zero_mul,Nat.one_mul,Int.le_refl,zx1,zx2,Bool.not_true,Bool.not_false,Bool.true_or,Bool.or_true,Bool.or_false,Bool.false_or,Bool.and_true,Bool.true_and,Bool.and_false,Bool.false_and,Bool.false_eq_true,false_implies,true_and,and_true,implies_true,bne_self_eq_false,beq_self_eq_true,reduceCtorEq]
  refine U_1 8 0 [] rfl rfl ?_
  simp only [go_sem,jq,jj,jy,jv,jk,jx,qn,qz,qs,qc,decide_true,decide_false,hat0,hat1,hat0',hat1',oka2.some h0,h0,g1,h0i,g1i,Int.toNat_zero,n1,o1,Nat.zero_mul,Nat.one_mul,Int.le_refl,zx1,zx2,Bool.not_true,Bool.not_false,Bool.true_or,Bool.or_true,Bool.or_false,Bool.false_or,Bool.and_true,Bool.true_and,Bool.and_false,Bool.false_and,Bool.false_eq_true,false_implies,true_and,and_true,implies_true,bne_self_eq_false,beq_self_eq_true,reduceCtorEq]
  refine zhF (fun _=>zNg x a.l[1] a.l[0] _ okx2 (oka2.el g1) (oka2.el h0)) ?_
  simp only [go_sem,jq,jj,jy,jv,jk,jx,hn2,Bool.not_true,Bool.not_false,Bool.true_or,Bool.or_true,Bool.or_false,Bool.false_or,Bool.and_true,Bool.true_and,Bool.and_false,Bool.false_and,Bool.false_eq_true,false_implies,true_and,and_true,implies_true,bne_self_eq_false,beq_self_eq_true,reduceCtorEq]
  refine U_t [9,10,11,12,13,14,15,16,17,18,19,20,21,22,23,27,28,24,29,25,30] rfl ?_
  simp only [go_sem,jq,jj,jy,jv,jk,jx,qn,qz,qs,qc,decide_true,decide_false,hat0,hat1,hat0',hat1',oka2.some h0,h0,g1,h0i,g1i,Int.toNat_zero,n1,o1,Nat.zero_mul,Nat.one_mul,Int.le_refl,zx1,zx2,Bool.not_true,Bool.not_false,Bool.true_or,Bool.or_true,Bool.or_false,Bool.false_or,Bool.and_true,Bool.true_and,Bool.and_false,Bool.false_and,Bool.false_eq_true,false_implies,true_and,and_true,implies_true,bne_self_eq_false,beq_self_eq_true,reduceCtorEq]
  refine U_1 26 0 [30,29,27] rfl rfl ?_
  simp only [go_sem,jq,jj,jy,jv,jk,jx,qn,qz,qs,qc,decide_true,decide_false,hat0,hat1,hat0',hat1',oka2.some h0,h0,g1,h0i,g1i,Int.toNat_zero,n1,o1,Nat.zero_mul,Nat.one_mul,Int.le_refl,zx1,zx2,Bool.not_true,Bool.not_false,Bool.true_or,Bool.or_true,Bool.or_false,Bool.false_or,Bool.and_true,Bool.true_and,Bool.and_false,Bool.false_and,Bool.false_eq_true,false_implies,true_and,and_true,implies_true,bne_self_eq_false,beq_self_eq_true,reduceCtorEq]
  refine zhF (fun _=>zM5 x a.l[0] _ okx2 (oka2.el h0)) ?_
  simp only [go_sem,jq,jj,jy,jv,jk,jx,qn,qz,qs,qc,decide_true,decide_false,hat0,hat1,hat0',hat1',oka2.some h0,h0,g1,h0i,g1i,Int.toNat_zero,n1,o1,Nat.zero_mul,Nat.one_mul,Int.le_refl,zx1,zx2,Bool.not_true,Bool.not_false,Bool.true_or,Bool.or_true,Bool.or_false,Bool.false_or,Bool.and_true,Bool.true_and,Bool.and_false,Bool.false_and,Bool.false_eq_true,false_implies,true_and,and_true,implies_true,bne_self_eq_false,beq_self_eq_true,reduceCtorEq]
  refine U_1 31 0 [] rfl rfl ?_
  simp only [go_sem,jq,jj,jy,jv,jk,jx,qn,qz,qs,qc,decide_true,decide_false,hat0,hat1,hat0',hat1',oka2.some h0,h0,g1,h0i,g1i,Int.toNat_zero,n1,o1,Nat.zero_mul,Nat.one_mul,Int.le_refl,zx1,zx2,Bool.not_true,Bool.not_false,Bool.true_or,Bool.or_true,Bool.or_false,Bool.false_or,Bool.and_true,Bool.true_and,Bool.and_false,Bool.false_and,Bool.false_eq_true,false_implies,true_and,and_true,implies_true,bne_self_eq_false,beq_self_eq_true,reduceCtorEq]
  refine zhF (fun _=>zM5 x a.l[1] _ okx2 (oka2.el g1)) ?_
  simp only [go_sem,jq,jj,jy,jv,jk,jx,qn,qz,qs,qc,decide_true,decide_false,hat0,hat1,hat0',hat1',oka2.some h0,h0,g1,h0i,g1i,Int.toNat_zero,n1,o1,Nat.zero_mul,Nat.one_mul,Int.le_refl,zx1,zx2,Bool.not_true,Bool.not_false,Bool.true_or,Bool.or_true,Bool.or_false,Bool.false_or,Bool.and_true,Bool.true_and,Bool.and_false,Bool.false_and,Bool.false_eq_true,false_implies,true_and,and_true,implies_true,bne_self_eq_false,beq_self_eq_true,reduceCtorEq]
  refine U_t [32,33,34,35,36,37,38,39,40,41,42,43,44,45,46] rfl ?_
  simp only [go_sem,jq,jj,jy,jv,jk,jx,qn,qz,qs,qc,decide_true,decide_false,hat0,hat1,hat0',hat1',oka2.some h0,h0,g1,h0i,g1i,Int.toNat_zero,n1,o1,Nat.zero_mul,Nat.one_mul,Int.le_refl,zx1,zx2,Bool.not_true,Bool.not_false,Bool.true_or,Bool.or_true,Bool.or_false,Bool.false_or,Bool.and_true,Bool.true_and,Bool.and_false,Bool.false_and,Bool.false_eq_true,false_implies,true_and,and_true,implies_true,bne_self_eq_false,beq_self_eq_true,reduceCtorEq]
  refine U_d ?_
  exact Wk0
 | true =>
  have qc:(n≤co)=True:=eq_true (k4 rfl)
  refine zyW rfl ?_
  refine U_t [0,1,2,5,3,6,4,7] rfl ?_
  simp only [go_sem,jq,jj,jy,jv,jk,jx,qn,qz,qs,qc,decide_true,decide_false,hat0,hat1,hat0',hat1',oka2.some h0,h0,g1,h0i,g1i,Int.toNat_zero,n1,o1,Nat.zero_mul,Nat.one_mul,Int.le_refl,zx1,zx2,Bool.not_true,Bool.not_false,Bool.true_or,Bool.or_true,Bool.or_false,Bool.false_or,Bool.and_true,Bool.true_and,Bool.and_false,Bool.false_and,Bool.false_eq_true,false_implies,true_and,and_true,implies_true,bne_self_eq_false,beq_self_eq_true,reduceCtorEq]
  refine U_1 8 0 [] rfl rfl ?_
  simp only [go_sem,jq,jj,jy,jv,jk,jx,qn,qz,qs,qc,decide_true,decide_false,hat0,hat1,hat0',hat1',oka2.some h0,h0,g1,h0i,g1i,Int.toNat_zero,n1,o1,Nat.zero_mul,Nat.one_mul,Int.le_refl,zx1,zx2,Bool.not_true,Bool.not_false,Bool.true_or,Bool.or_true,Bool.or_false,Bool.false_or,Bool.and_true,Bool.true_and,Bool.and_false,Bool.false_and,Bool.false_eq_true,false_implies,true_and,and_true,implies_true,bne_self_eq_false,beq_self_eq_true,reduceCtorEq]
  refine zhF (fun _=>zNg x a.l[1] a.l[0] _ okx2 (oka2.el g1) (oka2.el h0)) ?_
  simp only [go_sem,jq,jj,jy,jv,jk,jx,hn2,Bool.not_true,Bool.not_false,Bool.true_or,Bool.or_true,Bool.or_false,Bool.false_or,Bool.and_true,Bool.true_and,Bool.and_false,Bool.false_and,Bool.false_eq_true,false_implies,true_and,and_true,implies_true,bne_self_eq_false,beq_self_eq_true,reduceCtorEq]
  refine U_t [9,10,11,12,13,14,15,16,17,18,19,20,21,22,23,27,28,24,29,25,30] rfl ?_
  simp only [go_sem,jq,jj,jy,jv,jk,jx,qn,qz,qs,qc,decide_true,decide_false,hat0,hat1,hat0',hat1',oka2.some h0,h0,g1,h0i,g1i,Int.toNat_zero,n1,o1,Nat.zero_mul,Nat.one_mul,Int.le_refl,zx1,zx2,Bool.not_true,Bool.not_false,Bool.true_or,Bool.or_true,Bool.or_false,Bool.false_or,Bool.and_true,Bool.true_and,Bool.and_false,Bool.false_and,Bool.false_eq_true,false_implies,true_and,and_true,implies_true,bne_self_eq_false,beq_self_eq_true,reduceCtorEq]
  refine U_1 26 0 [30,29,27] rfl rfl ?_
  simp only [go_sem,jq,jj,jy,jv,jk,jx,qn,qz,qs,qc,decide_true,decide_false,hat0,hat1,hat0',hat1',oka2.some h0,h0,g1,h0i,g1i,Int.toNat_zero,n1,o1,Nat.zero_mul,Nat.one_mul,Int.le_refl,zx1,zx2,Bool.not_true,Bool.not_false,Bool.true_or,Bool.or_true,Bool.or_false,Bool.false_or,Bool.and_true,Bool.true_and,Bool.and_false,Bool.false_and,Bool.false_eq_true,false_implies,true_and,and_true,implies_true,bne_self_eq_false,beq_self_eq_true,reduceCtorEq]
  refine zhF (fun _=>zM5 x a.l[0] _ okx2 (oka2.el h0)) ?_
  simp only [go_sem,jq,jj,jy,jv,jk,jx,qn,qz,qs,qc,decide_true,decide_false,hat0,hat1,hat0',hat1',oka2.some h0,h0,g1,h0i,g1i,Int.toNat_zero,n1,o1,Nat.zero_mul,Nat.one_mul,Int.le_refl,zx1,zx2,Bool.not_true,Bool.not_false,Bool.true_or,Bool.or_true,Bool.or_false,Bool.false_or,Bool.and_true,Bool.true_and,Bool.and_false,Bool.false_and,Bool.false_eq_true,false_implies,true_and,and_true,implies_true,bne_self_eq_false,beq_self_eq_true,reduceCtorEq]
  refine U_1 31 0 [] rfl rfl ?_
  simp only [go_sem,jq,jj,jy,jv,jk,jx,qn,qz,qs,qc,decide_true,decide_false,hat0,hat1,hat0',hat1',oka2.some h0,h0,g1,h0i,g1i,Int.toNat_zero,n1,o1,Nat.zero_mul,Nat.one_mul,Int.le_refl,zx1,zx2,Bool.not_true,Bool.not_false,Bool.true_or,Bool.or_true,Bool.or_false,Bool.false_or,Bool.and_true,Bool.true_and,Bool.and_false,Bool.false_and,Bool.false_eq_true,false_implies,true_and,and_true,implies_true,bne_self_eq_false,beq_self_eq_true,reduceCtorEq]
  refine zhF (fun _=>zM5 x a.l[1] _ okx2 (oka2.el g1)) ?_
  simp only [go_sem,jq,jj,jy,jv,jk,jx,qn,qz,qs,qc,decide_true,decide_false,hat0,hat1,hat0',hat1',oka2.some h0,h0,g1,h0i,g1i,Int.toNat_zero,n1,o1,Nat.zero_mul,Nat.one_mul,Int.le_refl,zx1,zx2,Bool.not_true,Bool.not_false,Bool.true_or,Bool.or_true,Bool.or_false,Bool.false_or,Bool.and_true,Bool.true_and,Bool.and_false,Bool.false_and,Bool.false_eq_true,false_implies,true_and,and_true,implies_true,bne_self_eq_false,beq_self_eq_true,reduceCtorEq]
  refine U_t [32,33,34,35,36,37,38,39,40,41,42,43,44,45,46] rfl ?_
  simp only [go_sem,jq,jj,jy,jv,jk,jx,qn,qz,qs,qc,decide_true,decide_false,hat0,hat1,hat0',hat1',oka2.some h0,h0,g1,h0i,g1i,Int.toNat_zero,n1,o1,Nat.zero_mul,Nat.one_mul,Int.le_refl,zx1,zx2,Bool.not_true,Bool.not_false,Bool.true_or,Bool.or_true,Bool.or_false,Bool.false_or,Bool.and_true,Bool.true_and,Bool.and_false,Bool.false_and,Bool.false_eq_true,false_implies,true_and,and_true,implies_true,bne_self_eq_false,beq_self_eq_true,reduceCtorEq]
  refine U_d ?_
  exact Wk0
def ngF (y:Int):Bool:=decide (y < 0)
theorem zNx {m:List Int} (h:∀ j (hj:j < m.length),¬ m[j] < 0):m.findIdx ngF=m.length:=by
 rw [List.findIdx_eq_length]
 intro y hy
 obtain ⟨j,hj,rfl⟩:=List.getElem_of_mem hy
 exact decide_eq_false (h j hj)
theorem zNy {m:List Int} {i:Nat} (hi:i < m.length) (h0:m[i] < 0) (h:∀ j (hj:j < m.length),j < i→¬ m[j] < 0):m.findIdx ngF=i:=by
 rw [List.findIdx_eq hi]
 exact ⟨decide_eq_true h0,fun j hj=>decide_eq_false (h j (by omega) hj)⟩
def mat (m:List Int) (i k:Nat):List Int:=(m.set i (k:Int)).set k (i:Int)
def allB (F:List Int→List (List Int)) (m:List Int) (i k:Nat):List (List Int):=(List.range' i (k - i)).flatMap fun k=>if m.getD k 0 < 0 then F (mat m i k) else []
def alls:Nat→List Int→List (List Int)
 | 0,m=>[m]
 | f+1,m=>if m.findIdx ngF=m.length then [m] else allB (alls f) m (m.findIdx ngF) m.length
theorem zNz {f:Nat} {m:List Int} (h:m.findIdx ngF=m.length):alls f m=[m]:=by
 cases f with
 | zero=>rfl
 | succ f=>rw [alls,if_pos h]
theorem zNA {f i:Nat} {m:List Int} (h:m.findIdx ngF=i) (hi:i < m.length):alls (f+1) m=allB (alls f) m i m.length:=by
 rw [alls,if_neg (by omega),h]
theorem zNB {F:List Int→List (List Int)} {m:List Int} {i:Nat}:allB F m i i=[]:=by rw [allB,Nat.sub_self];rfl
theorem zNC {F:List Int→List (List Int)} {m:List Int} {i k:Nat} (hk:i≤k):allB F m i (k+1)=allB F m i k ++ (if m.getD k 0 < 0 then F (mat m i k) else []):=by
 rw [allB,allB,show k+1 - i=(k - i)+1 by omega,List.range'_1_concat,List.flatMap_append,List.flatMap_singleton,show i+(k - i)=k by omega]
theorem zND {m:List Int} {i k:Nat}:(mat m i k).length=m.length:=by rw [mat,List.length_set,List.length_set]
theorem zNE {m:List Int} {i k:Nat} (hi:i < m.length) (h:m[i] < 0) (hk:k < m.length):(mat m i k).countP ngF < m.countP ngF:=by
 have h1:(m.set i (k:Int)).countP ngF < m.countP ngF:=by
  rw [List.countP_set hi,if_pos (c:=ngF m[i]=true) (decide_eq_true h),if_neg (c:=ngF (k:Int)=true) (by rw [ngF,decide_eq_true_eq];omega)]
  have:=List.countP_pos_iff (p:=ngF) (l:=m) |>.2 ⟨m[i],List.getElem_mem hi,decide_eq_true h⟩
  omega
 have h2:(mat m i k).countP ngF≤(m.set i (k:Int)).countP ngF:=by
  rw [mat,List.countP_set (by rw [List.length_set];exact hk),if_neg (c:=ngF (i:Int)=true) (by rw [ngF,decide_eq_true_eq];omega)]
  omega
 omega
theorem zNF {m:List Int} (h:m.countP ngF=0):m.findIdx ngF=m.length:=by
 rw [List.findIdx_eq_length]
 intro y hy
 have:=List.countP_eq_zero.1 h y hy
 simpa using this
theorem zNI {m:List Int} {i j:Nat} {a:Int} (hi:i < m.length):(m.set i a).getD j 0=if i=j then a else m.getD j 0:=by
 rw [List.getD_eq_getElem?_getD,List.getElem?_set]
 by_cases e:i=j
 ·subst e;simp [hi]
 ·simp [e,List.getD_eq_getElem?_getD]
def PM (n:Nat) (m:List Int):Prop:=m.length=n∧∀ j,j < n→m.getD j 0=-1∨∃ l,l < n∧m.getD j 0=(l:Int)∧m.getD l 0=(j:Int)
theorem zNJ {m:List Int} {i k j:Nat} (hi:i < m.length) (hk:k < m.length):(mat m i k).getD j 0=if k=j then (i:Int) else if i=j then (k:Int) else m.getD j 0:=by
 rw [mat,zNI (by rw [List.length_set];exact hk),zNI hi]
theorem zNK {n:Nat} {m:List Int} {i k:Nat} (H:PM n m) (hi:i < n) (hk:k < n) (ni:m.getD i 0 < 0) (nk:m.getD k 0 < 0):PM n (mat m i k):=by
 obtain ⟨rfl,H⟩:=H
 refine ⟨zND,fun j hj=>?_⟩
 rw [zNJ hi hk]
 by_cases e1:k=j
 ·subst e1
  refine .inr ⟨i,hi,by rw [if_pos rfl],?_⟩
  rw [zNJ hi hk]
  by_cases e:k=i
  ·rw [if_pos e,e]
  ·rw [if_neg e,if_pos rfl]
 ·rw [if_neg e1]
  by_cases e2:i=j
  ·subst e2
   exact .inr ⟨k,hk,by rw [if_pos rfl],by rw [zNJ hi hk,if_pos rfl]⟩
  ·rw [if_neg e2]
   refine (H j hj).imp id fun ⟨l,hl,h1,h2⟩=>⟨l,hl,h1,?_⟩
   rw [zNJ hi hk,if_neg (fun e=>by subst e;omega),if_neg (fun e=>by subst e;omega),h2]
theorem zNL {n:Nat} {m:List Int} (H:PM n m) (h:m.findIdx ngF=m.length):zJt n m:=by
 obtain ⟨rfl,H⟩:=H
 have nn:∀ i (hi:i < m.length),¬ m[i] < 0:=fun i hi=>by
  have:=List.findIdx_eq_length.1 h m[i] (List.getElem_mem hi)
  exact of_decide_eq_false this
 have key:∀ i (hi:i < m.length),∃ l,l < m.length∧m[i]=(l:Int)∧m.getD l 0=(i:Int):=fun i hi=>by
  have e:m.getD i 0=m[i]:=by simp [List.getD_eq_getElem?_getD,hi]
  have h1:=H i hi
  rw [e] at h1
  rcases h1 with h1|h1
  ·have:=nn i hi;omega
  ·exact h1
 refine ⟨rfl,fun i hi=>?_,fun i hi=>?_⟩
 ·obtain ⟨l,hl,e,_⟩:=key i hi
  omega
 ·obtain ⟨l,hl,e,e2⟩:=key i hi
  rw [e,jW,e2]
theorem zNM {n:Nat}:∀ {f:Nat} {m:List Int},PM n m→m.countP ngF≤f→∀ r ∈ alls f m,zJt n r
 | 0,m,H,hc,r,hr=>by
  rw [alls,List.mem_singleton] at hr
  subst hr
  exact zNL H (zNF (by omega))
 | f+1,m,H,hc,r,hr=>by
  rw [alls] at hr
  split at hr
  ·next h=>rw [List.mem_singleton] at hr;subst hr;exact zNL H h
  ·next h =>
   have hle:m.findIdx ngF≤m.length:=List.findIdx_le_length
   obtain ⟨k,hk,hr⟩:=List.mem_flatMap.1 hr
   rw [List.mem_range'_1] at hk
   have hil:m.findIdx ngF < m.length:=by omega
   have hn:=List.findIdx_getElem (p:=ngF) (xs:=m) (w:=hil)
   have hn:m[m.findIdx ngF] < 0:=of_decide_eq_true hn
   split at hr
   ·next h2 =>
    have hkl:k < m.length:=by omega
    exact zNM (zNK H (by rw [← H.1];exact hil) (by rw [← H.1];exact hkl) (by simpa [List.getD_eq_getElem?_getD,hil] using hn) h2) (by have:=zNE hil hn hkl;omega) r hr
   ·cases hr
theorem zNN {n:Nat}:PM n (List.replicate n (-1)):=by
 refine ⟨List.length_replicate,fun j hj=>.inl ?_⟩
 simp [List.getD_eq_getElem?_getD,List.getElem?_replicate,hj]
theorem zNO {n:Nat}:(List.replicate n (-1:Int)).countP ngF≤n:=by
 have:=List.countP_le_length (p:=ngF) (l:=List.replicate n (-1:Int))
 rwa [List.length_replicate] at this
def bmS (B:List Int→Int × Bool) (st:Option (List Int × Int)) (m:List Int):Option (List Int × Int) :=
 match st with
 | none=>if (B m).2=true then some (m,(B m).1) else none
 | some s=>if (B m).2=true∧s.2 < (B m).1 then some (m,(B m).1) else some s
def oBm (st:Option (List Int × Int)):List Int × Int × Bool:=match st with
 | none=>([],0,false)
 | some s=>(s.1,s.2,true)
noncomputable def zNP (x:zOw) (a:List DCall):List Int × Int × Bool:=if zAP x a=true then oBm ((alls a.length (List.replicate a.length (-1))).foldl (bmS (zNn x a)) none) else ([],0,false)
def BM (st:Option (List Int × Int)) (l:List Int) (most:Int) (fo:Bool):Prop:=match st with
 | none=>fo=false∧l=[]∧most=0
 | some s=>fo=true∧l=s.1∧most=s.2
theorem zNQ {st:Option (List Int × Int)} {l:List Int} {most:Int} {fo:Bool} (h:BM st l most fo):oBm st=(l,most,fo):=by
 cases st with
 | none=>obtain ⟨rfl,rfl,rfl⟩:=h;rfl
 | some s=>obtain ⟨rfl,rfl,rfl⟩:=h;rfl
theorem zNR {st:Option (List Int × Int)} {l m:List Int} {most b:Int} {fo:Bool} {B:List Int→Int × Bool} (h:BM st l most fo) (hb:B m=(b,true)) (hc:fo=false∨most < b):BM (bmS B st m) m b true:=by
 cases st with
 | none=>simp only [bmS,hb,if_true];exact ⟨rfl,rfl,rfl⟩
 | some s =>
  obtain ⟨rfl,rfl,rfl⟩:=h
  have:s.2 < b:=hc.resolve_left (by decide)
  simp only [bmS,hb,true_and,this,if_true]
  exact ⟨rfl,rfl,rfl⟩
theorem zNS {st:Option (List Int × Int)} {l m:List Int} {most:Int} {fo:Bool} {B:List Int→Int × Bool} (h:BM st l most fo) (hc:(B m).2=true→fo=true∧¬ most < (B m).1):BM (bmS B st m) l most fo:=by
 cases st with
 | none =>
  obtain ⟨rfl,rfl,rfl⟩:=h
  simp only [bmS]
  rw [if_neg fun e=>by have:=(hc e).1;cases this]
  exact ⟨rfl,rfl,rfl⟩
 | some s =>
  obtain ⟨rfl,rfl,rfl⟩:=h
  simp only [bmS]
  rw [if_neg fun e=>(hc e.1).2 e.2]
  exact ⟨rfl,rfl,rfl⟩
theorem zNT {m:List Int} {i k:Nat} (hi:i < m.length) (hk:k < m.length) (ei:m[i]=-1) (ek:m[k]=-1):(((m.set i (k:Int)).set k (i:Int)).set i (-1)).set k (-1)=m:=by
 refine List.ext_getElem (by simp) fun j h1 h2=>?_
 simp only [List.getElem_set]
 by_cases e1:k=j
 ·subst e1;rw [if_pos rfl,ek]
 ·rw [if_neg e1]
  by_cases e2:i=j
  ·subst e2;rw [if_pos rfl,ei]
  ·rw [if_neg e2,if_neg e1,if_neg e2]
theorem zNU {B:List Int→Int × Bool}:∀ {l:List (List Int)} {st:Option (List Int × Int)} {s:List Int × Int},l.foldl (bmS B) st=some s→s.1 ∈ l∨st=some s
 | [],st,s,h=>.inr h
 | m :: l,st,s,h=>by
  rw [List.foldl_cons] at h
  rcases zNU h with h|h
  ·exact .inl (List.mem_cons_of_mem _ h)
  ·cases st with
   | none =>
    simp only [bmS] at h
    split at h
    ·cases h;exact .inl (List.mem_cons_self ..)
    ·cases h
   | some z =>
    simp only [bmS] at h
    split at h
    ·cases h;exact .inl (List.mem_cons_self ..)
    ·exact .inr h
theorem zNV {n:Nat}:∀ y ∈ List.replicate n (-1:Int),y=-1∨(0≤y∧y < 6):=fun y hy=>.inl (List.eq_of_mem_replicate hy)
theorem zNW {B:List Int→Int × Bool} {n:Nat} (h6:n≤6) {s:List Int × Int} (h:(alls n (List.replicate n (-1))).foldl (bmS B) none=some s):∀ y ∈ s.1,I64 y:=by
 rcases zNU h with h|h
 ·obtain ⟨e,H,_⟩:=zNM zNN zNO _ h
  intro y hy
  obtain ⟨i,hi,rfl⟩:=List.getElem_of_mem hy
  have:=H i hi
  unfold I64;omega
 ·cases h
theorem zNX {B:List Int→Int × Bool} {n:Nat} (h6:n≤6) {l:List Int} {most:Int} {fo:Bool} (h:BM ((alls n (List.replicate n (-1))).foldl (bmS B) none) l most fo):∀ y ∈ l,I64 y:=by
 cases hs:(alls n (List.replicate n (-1))).foldl (bmS B) none with
 | none=>rw [hs] at h;obtain ⟨_,rfl,_⟩:=h;intro y hy;cases hy
 | some s=>rw [hs] at h;obtain ⟨_,rfl,_⟩:=h;exact zNW h6 hs
structure MV (hb h:Hp) (bx bc bf bm bb:Nat) (x:DHarbour) (a:Sl DCall) (mt be:Sl Int) (most:Int) (fo:Bool):Prop where
 le:hb.le h
 ox:Enc.ok hb x
 oa:a.Ok hb
 qx:hb bx=some (.cells [.int .i64 x.forecast.tide.mean,x.forecast.tide.parts.val,x.forecast.surges.val,x.chart.points.val,x.chart.segments.val,x.fleet.val,.int .i64 x.regime.gap,.bool x.regime.noMeet,.int .i64 x.crew.tugs,.int .i64 x.crew.pilots,.int .i64 x.crew.rest,x.crew.moves.val].toArray 58 (0,0))
 qc:hb bc=some (.cells [a.val].toArray 60 (0,0))
 nf:hb bf=none
 nm:hb bm=none
 nb:hb bb=none
 d1:bf ≠ bm
 d2:bf ≠ bb
 d3:bm ≠ bb
 qf:h bf=some (.cells [Value.bool fo].toArray 4 (0,0))
 qm:h bm=some (.cells [Value.int .i64 most].toArray 3 (0,0))
 qb:h bb=some (.cells [be.val].toArray 35 (0,0))
 rm:RowAt 3 h mt
 fm:∀ g,mt.a=some ⟨g,0,none⟩→hb g=none∧g ≠ bf∧g ≠ bm∧g ≠ bb
 rb:RowAt 3 h be
 fb:∀ g,be.a=some ⟨g,0,none⟩→hb g=none∧g ≠ bf∧g ≠ bm∧g ≠ bb
 ap:Apart mt be
section
variable {hb h h2:Hp} {bx bc bf bm bb:Nat} {x:DHarbour} {a:Sl DCall} {mt be q:Sl Int} {most:Int} {fo:Bool}
theorem zNY (H:MV hb h bx bc bf bm bb x a mt be most fo):h.lds (some ⟨bx,0,none⟩) 12=some [.int .i64 x.forecast.tide.mean,x.forecast.tide.parts.val,x.forecast.surges.val,x.chart.points.val,x.chart.segments.val,x.fleet.val,.int .i64 x.regime.gap,.bool x.regime.noMeet,.int .i64 x.crew.tugs,.int .i64 x.crew.pilots,.int .i64 x.crew.rest,x.crew.moves.val]∧h.lds (some ⟨bc,0,none⟩) 1=some [a.val]∧h.lds (some ⟨bf,0,none⟩) 1=some [.bool fo]∧h.lds (some ⟨bm,0,none⟩) 1=some [.int .i64 most]∧h.lds (some ⟨bb,0,none⟩) 1=some [be.val] :=
 ⟨zx7 (H.le _ _ H.qx) rfl (by simp),zx7 (H.le _ _ H.qc) rfl (by simp),zx7 H.qf rfl (by simp),zx7 H.qm rfl (by simp),zx7 H.qb rfl (by simp)⟩
theorem MV.grow (H:MV hb h bx bc bf bm bb x a mt be most fo) (hle:h.le h2):MV hb h2 bx bc bf bm bb x a mt be most fo :=
 ⟨Hp.le_trans H.le hle,H.ox,H.oa,H.qx,H.qc,H.nf,H.nm,H.nb,H.d1,H.d2,H.d3,hle _ _ H.qf,hle _ _ H.qm,hle _ _ H.qb,zKv H.rm hle,H.fm,zKv H.rb hle,H.fb,H.ap⟩
theorem MV.set (H:MV hb h bx bc bf bm bb x a mt be most fo) {i:Nat} (u:Int) (hi:i < mt.l.length):∃ g cur,mt.a=some ⟨g,0,none⟩∧h g=some (.cells cur 3 (0,0))∧hb g=none∧i+1≤cur.size∧MV hb (h.ins g (.cells (spl i [.int .i64 u] cur.toList).toArray 3 (0,0))) bx bc bf bm bb x a ⟨mt.a,mt.cap,mt.l.set i u⟩ be most fo:=by
 obtain ⟨g,cur,ga,gb,gs,R⟩:=zLb (u:=u) H.rm hi
 obtain ⟨f1,f2,f3,f4⟩:=H.fm g ga
 refine ⟨g,cur,ga,gb,f1,gs,⟨fun k o hk=>?_,H.ox,H.oa,H.qx,H.qc,H.nf,H.nm,H.nb,H.d1,H.d2,H.d3,?_,?_,?_,R,H.fm,?_,H.fb,H.ap⟩⟩
 ·rw [Hp.ins_ne (fun e=>by subst e;rw [f1] at hk;cases hk)]
  exact H.le k o hk
 ·rw [Hp.ins_ne (Ne.symm f2)];exact H.qf
 ·rw [Hp.ins_ne (Ne.symm f3)];exact H.qm
 ·rw [Hp.ins_ne (Ne.symm f4)];exact H.qb
 ·exact H.rb.keep fun g' hg'=>Hp.ins_ne fun e=>by subst e;exact H.ap _ ga hg'
theorem MV.new (H:MV hb h bx bc bf bm bb x a mt be most fo) {m':Int} (rq:RowAt 3 h q) (fq:∀ g,q.a=some ⟨g,0,none⟩→hb g=none∧g ≠ bf∧g ≠ bm∧g ≠ bb) (aq:Apart mt q) :
  MV hb (((h.ins bb (.cells [q.val].toArray 35 (0,0))).ins bm (.cells [Value.int .i64 m'].toArray 3 (0,0))).ins bf (.cells [Value.bool true].toArray 4 (0,0))) bx bc bf bm bb x a mt q m' true:=by
 refine ⟨fun k o hk=>?_,H.ox,H.oa,H.qx,H.qc,H.nf,H.nm,H.nb,H.d1,H.d2,H.d3,Hp.ins_same,?_,?_,?_,H.fm,?_,fq,aq⟩
 ·rw [Hp.ins_ne (fun e=>by subst e;rw [H.nf] at hk;cases hk),Hp.ins_ne (fun e=>by subst e;rw [H.nm] at hk;cases hk),Hp.ins_ne (fun e=>by subst e;rw [H.nb] at hk;cases hk)]
  exact H.le k o hk
 ·rw [Hp.ins_ne (Ne.symm H.d1)];exact Hp.ins_same
 ·rw [Hp.ins_ne (Ne.symm H.d2),Hp.ins_ne (Ne.symm H.d3)];exact Hp.ins_same
 ·refine H.rm.keep fun g hg=>?_
  obtain ⟨_,f2,f3,f4⟩:=H.fm g hg
  rw [Hp.ins_ne f2,Hp.ins_ne f3,Hp.ins_ne f4]
 ·refine rq.keep fun g hg=>?_
  obtain ⟨_,f2,f3,f4⟩:=fq g hg
  rw [Hp.ins_ne f2,Hp.ins_ne f3,Hp.ins_ne f4]
end
set_option maxRecDepth 30000 in
theorem zNZ (hb:Hp) (bx bc bf bm bb:Nat) (x:DHarbour) (a:Sl DCall) (mt be:Sl Int) (most:Int) (fo:Bool) (st:Option (List Int × Int)) (h:Hp) (H:MV hb h bx bc bf bm bb x a mt be most fo) (hst:BM st be.l most fo) (hl:mt.l.length≤1048576) (hI:∀ y ∈ mt.l,I64 y) :
  Cw jV 93 [mt.val,.pointer (some ⟨bx,0,none⟩),.pointer (some ⟨bc,0,none⟩),.pointer (some ⟨bf,0,none⟩),.pointer (some ⟨bm,0,none⟩),.pointer (some ⟨bb,0,none⟩)] h (fun k=>hb k=none∧h k ≠ none) fun v h'=>∃ (be':Sl Int) (most':Int) (fo':Bool),MV hb h' bx bc bf bm bb x a mt be' most' fo'∧BM (bmS (zNn (Con.con x) a.l) st mt.l) be'.l most' fo':=by
 have hx:=Enc.mono H.le H.ox
 have ha:a.Ok h:=H.oa.mono H.le
 have hm:mt.Ok h:=H.rm.ok (by decide) hI
 obtain ⟨⟨b,ok⟩,hB⟩:∃ B,zNn (Con.con x) a.l mt.l=B:=⟨_,rfl⟩
 have hbo:=zNv x a mt h hx ha hm
 rw [zAQ,con_ints,hB] at hbo
 obtain ⟨q0,q1,q2,q3,q4⟩:=zNY H
 refine zlI (fun A W=>by simp) Tryz.func93 rfl rfl (by simp)  (fun k hk=>hk.2) fun W0 hW=>?_
 have own:∀ k,hb k=none→h k=none∨W0.own k:=fun k hk=>by
  cases hh:h k with
  | none=>exact .inl rfl
  | some o=>exact .inr (hW k ⟨hk,by rw [hh];simp⟩)
 repeat' first|refine Wa ?_|refine zhF (fun _=>hbo) ?_|(simp only [go_sem,jq,jj,jy,jv,jk,jx,q0,q1,q2,q3,q4,true_or,true_and,and_true,implies_true];try rfl)|refine Wb ?_|fail
 refine zc9 rfl (fun hc=>?_) (fun hc=>?_)
 ·have hc':ok=true∧(fo=false∨most < b):=by
   simp only [jJ,jQ,Bool.not_eq_true'] at hc
   exact ⟨hc.1,hc.2.imp id of_decide_eq_true⟩
  obtain ⟨rfl,hc2⟩:=hc'
  first|refine zyi [0,0,0,1,1,1] rfl ?_|refine zyh [0,0,0,1,1,1] rfl ?_|(refine zc3 ?_;first|refine zyi [0,0,0,1,1,1] rfl ?_|refine zyh [0,0,0,1,1,1] rfl ?_)
  refine Evs ?_
  refine zkr (zES mt _ hm hl) rfl ?_
  rintro v h1 le1 ⟨q,rfl,eq1,Rq,fq⟩
  have H1:=H.grow le1
  refine Evs ?_
  refine zKy (xs':=[q.val]) (by simp only [go_sem]) (by simp only [go_sem]) rfl rfl H1.qb (own bb H.nb) (by simp) rfl ?_
  try simp only [go_sem,jq,jj,jy,jv,jk,jx]
  refine zKy (xs':=[.int .i64 b]) (by simp only [go_sem]) (by simp only [go_sem]) rfl rfl ((Hp.ins_ne H.d3).trans H1.qm) (own bm H.nm) (by simp) rfl ?_
  try simp only [go_sem,jq,jj,jy,jv,jk,jx]
  refine zKy (xs':=[.bool true]) (by simp only [go_sem]) (by simp only [go_sem]) rfl rfl ((Hp.ins_ne H.d1).trans ((Hp.ins_ne H.d2).trans H1.qf)) (own bf H.nf) (by simp) rfl ?_
  try simp only [go_sem,jq,jj,jy,jv,jk,jx]
  refine Wk ?_
  have hnn:∀ {k:Nat} {o:Obj},h k=some o→∀ g,q.a=some ⟨g,0,none⟩→g ≠ k:=fun hk g hg e=>by
   rw [← e,fq g hg] at hk;cases hk
  exact ⟨q,b,true,MV.new H1 Rq (fun g hg=>⟨znC H.le (fq g hg),hnn H.qf g hg,hnn H.qm g hg,hnn H.qb g hg⟩) (fun g hg hq=>zIm H.rm hg (fq g hq)),by rw [eq1];exact zNR hst hB hc2⟩
 ·have hc':ok=true→fo=true∧¬ most < b:=by
   intro e
   subst e
   simp only [Bool.true_and,jp,Bool.not_eq_false'] at hc
   exact ⟨hc.1,of_decide_eq_false hc.2⟩
  refine Wk ?_
  exact ⟨be,most,fo,H,zNS hst fun e=>by rw [hB] at e ⊢;exact hc' e⟩
end Go.Proofs.YtdejfjdbcggilaaGreat
