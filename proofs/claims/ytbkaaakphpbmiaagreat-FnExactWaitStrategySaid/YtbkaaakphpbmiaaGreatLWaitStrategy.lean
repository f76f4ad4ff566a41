/- The walk of a law of the given program, and the law itself as it is stated: it holds of every input. No condition. -/
import Derived.Test.YtbkaaakphpbmiaaGreatRows
import Derived.Test.YtbkaaakphpbmiaaGreatSWaitStrategyx3
import Derived.Test.YtbkaaakphpbmiaaGreatXWaitStrategy14
import Derived.Test.YtbkaaakphpbmiaaGreatXWaitStrategy4
import Derived.Test.YtbkaaakphpbmiaaGreatXWaitStrategy5
import Derived.Test.YtbkaaakphpbmiaaGreatXWaitStrategy6
set_option linter.unusedVariables false
set_option linter.unusedSimpArgs false
set_option maxRecDepth 4000
open Nat renaming reduceAdd → jq, reduceMul → jj, reduceBEq → jy, reduceLeDiff → jv, reduceLT → jk, reduceEqDiff → jx
open Bool renaming or_eq_false_iff → jp, or_eq_true → jQ, and_eq_true → jJ, not_eq_true' → jd
open Go.SL.Hp renaming le_trans → jB, le_refl → wW
open Go.SL.Enc renaming ok → jD, mono → jL
open Go.SL.Foot renaming foot → qj, dom → wD
open Go.SL.Mk renaming put → qb, cnt → wd
open List renaming append_nil → yJ
open Go.SL.Blk renaming blk → yW
open Go.Proofs.Tryz renaming prog → jV
namespace Go.Proofs.YtbkaaakphpbmiaaGreat
open Go Go.SL Go.RowKit Go.ChangeShapes Go.WideShapes Go.ChangeAt
set_option maxHeartbeats 1000000
set_option maxRecDepth 100000 in
theorem FnExactWaitStrategy_fn (Y:DHarbour) (a1:Sl DCall) (a2:Int) (a3:Sl Int) (h:Hp) (au:jD h Y) (av:jD h a1) (bk:jD h a2) (bg:jD h a3):Ct jV 3 [.agg #[.int .i64 Y.forecast.tide.mean,Y.forecast.tide.parts.val,Y.forecast.surges.val,Y.chart.points.val,Y.chart.segments.val,Y.fleet.val,.int .i64 Y.regime.gap,.bool Y.regime.noMeet,.int .i64 Y.crew.tugs,.int .i64 Y.crew.pilots,.int .i64 Y.crew.rest,Y.crew.moves.val],a1.val,.int .i64 a2,a3.val] h fun v h'=>v=.bool true:=by
 refine zdn (fun A W=>by simp) Tryz.func3 rfl rfl (by simp) fun W0=>?_
 refine Wk ?_
 refine zc9 rfl (fun c1=>?_) (fun c1=>?_)
 ·exact Wk0
 have ai:yW a3≤1048576:=by
  rw [zkC (fun _=>rfl)]
  have:=JF c1
  omega
 refine Wk ?_
 refine zhF (fun _=>zyq _ _ _ au (by omega)) ?_
 refine Wk ?_
 refine zc9 rfl (fun c2=>?_) (fun c2=>?_)
 ·exact Wk0
 have ci:=zkF c2
 have bl:=zkH (show (0:Int)≤1048576∧(1048576:Int)≤1048576 by omega) ci
 have aw:yW Y≤1048576:=by have h1:=zkI ci;have h2:=(show (0:Int)≤1048576∧(1048576:Int)≤1048576 by omega);omega
 refine Wk ?_
 refine zhF (fun _=>zyg _ _ _ av bl) ?_
 refine Wk ?_
 refine zc9 rfl (fun c3=>?_) (fun c3=>?_)
 ·exact Wk0
 have cj:=zkF c3
 have dm:=zkH bl cj
 have ax:yW a1≤1048576:=by have h1:=zkI cj;have h2:=bl;omega
 refine Wk ?_
 refine zkr (zyJ _ _ au aw) rfl ?_
 rintro v h1 dc ⟨s1,rfl,e1,n,m1⟩
 have e:=dc
 refine Wk ?_
 refine zkr (zyz _ _ (jL (x:=a1) e av) ax) rfl ?_
 rintro v h2 cm ⟨s2,rfl,e2,w,m2⟩
 replace n:=jL (x:=s1) cm n
 replace e:=jB e cm
 refine Wk ?_
 refine zkr (zys _ _ (jL (x:=a3) e bg) ai) rfl ?_
 rintro v h3 bm ⟨s3,rfl,e3,J,m3⟩
 replace n:=jL (x:=s1) bm n
 replace w:=jL (x:=s2) bm w
 replace e:=jB e bm
 refine Wk ?_
 refine zkr (zNU _ _ _ _ _ n w bk J) rfl ?_
 rintro v h4 bh ⟨s4,rfl,e4,bi,m4⟩
 replace n:=jL (x:=s1) bh n
 replace w:=jL (x:=s2) bh w
 replace J:=jL (x:=s3) bh J
 replace e:=jB e bh
 have dn:=bi
 have c:=wW h4
 refine Wk ?_
 refine zkr (zyJ _ _ (jL (x:=Y) e au) aw) rfl ?_
 rintro v h5 az ⟨d,rfl,e5,o,m5⟩
 have bn:∀ b ∈ qj d,h b=none:=fun b a=>znR e (m5.2.1 b a)
 have cd:∀ b ∈ qj d,h4 b=none:=fun b a=>znR c (m5.2.1 b a)
 replace n:=jL (x:=s1) az n
 replace w:=jL (x:=s2) az w
 replace J:=jL (x:=s3) az J
 replace e:=jB e az
 replace c:=jB c az
 have K:=m5.1
 refine Wk ?_
 refine zkr (zyz _ _ (jL (x:=a1) e av) ax) rfl ?_
 rintro v h6 aj ⟨i,rfl,e6,p,m6⟩
 have bp:∀ b ∈ qj i,¬ (b ∈ qj d):=fun b a N=>wD (x:=d) K b N (m6.2.1 b a)
 have bq:∀ b ∈ qj i,h b=none:=fun b a=>znR e (m6.2.1 b a)
 have ce:∀ b ∈ qj i,h4 b=none:=fun b a=>znR c (m6.2.1 b a)
 replace K:=znS (x:=d) aj o K
 replace o:=jL (x:=d) aj o
 replace n:=jL (x:=s1) aj n
 replace w:=jL (x:=s2) aj w
 replace J:=jL (x:=s3) aj J
 replace e:=jB e aj
 replace c:=jB c aj
 have y:=m6.1
 refine Wk ?_
 refine zkr (zys _ _ (jL (x:=a3) e bg) ai) rfl ?_
 rintro v h7 ae ⟨F,rfl,e7,q,m7⟩
 have br:∀ b ∈ qj F,¬ (b ∈ qj d):=fun b a N=>wD (x:=d) K b N (m7.2.1 b a)
 have bt:∀ b ∈ qj F,¬ (b ∈ qj i):=fun b a N=>wD (x:=i) y b N (m7.2.1 b a)
 have bu:∀ b ∈ qj F,h b=none:=fun b a=>znR e (m7.2.1 b a)
 have cf:∀ b ∈ qj F,h4 b=none:=fun b a=>znR c (m7.2.1 b a)
 replace K:=znS (x:=d) ae o K
 replace o:=jL (x:=d) ae o
 replace y:=znS (x:=i) ae p y
 replace p:=jL (x:=i) ae p
 replace n:=jL (x:=s1) ae n
 replace w:=jL (x:=s2) ae w
 replace J:=jL (x:=s3) ae J
 replace e:=jB e ae
 replace c:=jB c ae
 have r:=m7.1
 refine Wk ?_
 refine zkr (zNT _ _ _ _ _ o p bk q (znO e7 ai)) rfl ?_
 rintro v h8 Z ⟨l,rfl,e8,s,m8⟩
 have bv:∀ b ∈ qj l,¬ (b ∈ qj d):=fun b a N=>wD (x:=d) K b N (m8.2.1 b a)
 have bw:∀ b ∈ qj l,¬ (b ∈ qj i):=fun b a N=>wD (x:=i) y b N (m8.2.1 b a)
 have bz:∀ b ∈ qj l,¬ (b ∈ qj F):=fun b a N=>wD (x:=F) r b N (m8.2.1 b a)
 have b7:∀ b ∈ qj l,h b=none:=fun b a=>znR e (m8.2.1 b a)
 have cg:∀ b ∈ qj l,h4 b=none:=fun b a=>znR c (m8.2.1 b a)
 replace K:=znS (x:=d) Z o K
 replace o:=jL (x:=d) Z o
 replace y:=znS (x:=i) Z p y
 replace p:=jL (x:=i) Z p
 replace r:=znS (x:=F) Z q r
 replace q:=jL (x:=F) Z q
 replace n:=jL (x:=s1) Z n
 replace w:=jL (x:=s2) Z w
 replace J:=jL (x:=s3) Z J
 replace e:=jB e Z
 replace c:=jB c Z
 have m:=m8.1
 refine Wk ?_
 refine zhF (fun _=>zy9 _ _ _ s (jL (x:=s4) c bi)) ?_
 refine Wk ?_
 refine zc9 rfl (fun c4=>?_) (fun c4=>?_)
 ·simp only [jQ] at c4
  rcases c4 with c4|c4
  ·(rw [jd] at c4;exact (JF c4 (by simp only [e1,e2,e3,e4,e5,e6,e7,e8])).elim)
  ·(exact absurd (by simp only [e1,e2,e3,e4,e5,e6,e7,e8]) (zjD c4))
 refine Wk ?_
 refine ziV rfl ?_
 refine zi3 [0,1] rfl (by kernel_rfl) ?_
 refine Evs ?_
 refine ziT [2] (by kernel_rfl) (by kernel_rfl) ?_
 refine Evs ?_
 refine zkr (zyJ _ _ (jL (x:=Y) e au) aw) rfl ?_
 rintro v h9 X ⟨s9,rfl,e9,a7,m9⟩
 replace K:=znS (x:=d) X o K
 replace o:=jL (x:=d) X o
 replace y:=znS (x:=i) X p y
 replace p:=jL (x:=i) X p
 replace r:=znS (x:=F) X q r
 replace q:=jL (x:=F) X q
 replace m:=znS (x:=l) X s m
 replace s:=jL (x:=l) X s
 replace n:=jL (x:=s1) X n
 replace w:=jL (x:=s2) X w
 replace J:=jL (x:=s3) X J
 replace e:=jB e X
 replace c:=jB c X
 refine Evs ?_
 refine ziT [3] (by kernel_rfl) (by kernel_rfl) ?_
 refine Evs ?_
 refine zhF (fun _=>zy7 _ _ _ o a7) ?_
 refine Evs ?_
 refine zi3 [4] rfl (by kernel_rfl) ?_
 refine Evs ?_
 refine ziU (by kernel_rfl) ?_
 refine Wk ?_
 refine zc9 rfl (fun c5=>?_) (fun c5=>?_)
 ·(rw [jd] at c5;exact (JF c5 (by simp only [e1,e2,e3,e4,e5,e6,e7,e8,e9])).elim)
 refine Wk ?_
 refine zkr (zyz _ _ (jL (x:=a1) e av) ax) rfl ?_
 rintro v dp z ⟨de,rfl,aq,bd,dq⟩
 replace K:=znS (x:=d) z o K
 replace o:=jL (x:=d) z o
 replace y:=znS (x:=i) z p y
 replace p:=jL (x:=i) z p
 replace r:=znS (x:=F) z q r
 replace q:=jL (x:=F) z q
 replace m:=znS (x:=l) z s m
 replace s:=jL (x:=l) z s
 replace n:=jL (x:=s1) z n
 replace w:=jL (x:=s2) z w
 replace J:=jL (x:=s3) z J
 replace a7:=jL (x:=s9) z a7
 replace e:=jB e z
 replace c:=jB c z
 refine Wk ?_
 refine zhF (fun _=>zyT _ _ _ p bd) ?_
 refine Wk ?_
 refine zc9 rfl (fun c6=>?_) (fun c6=>?_)
 ·(rw [jd] at c6;exact (JF c6 (by simp only [e1,e2,e3,e4,e5,e6,e7,e8,e9,aq])).elim)
 refine Wk ?_
 refine zkr (zys _ _ (jL (x:=a3) e bg) ai) rfl ?_
 rintro v dr t ⟨dt,rfl,a8,da,du⟩
 replace K:=znS (x:=d) t o K
 replace o:=jL (x:=d) t o
 replace y:=znS (x:=i) t p y
 replace p:=jL (x:=i) t p
 replace r:=znS (x:=F) t q r
 replace q:=jL (x:=F) t q
 replace m:=znS (x:=l) t s m
 replace s:=jL (x:=l) t s
 replace n:=jL (x:=s1) t n
 replace w:=jL (x:=s2) t w
 replace J:=jL (x:=s3) t J
 replace a7:=jL (x:=s9) t a7
 replace bd:=jL (x:=de) t bd
 replace e:=jB e t
 replace c:=jB c t
 refine Wk ?_
 refine zhF (fun _=>zyL _ _ _ q da) ?_
 refine Wk ?_
 refine zc9 rfl (fun c7=>?_) (fun c7=>?_)
 ·(rw [jd] at c7;exact (JF c7 (by simp only [e1,e2,e3,e4,e5,e6,e7,e8,e9,aq,a8])).elim)
 refine zc5 ?_
 refine Evs ?_
 refine zie rfl ?_
 refine Evs ?_
 refine zlU [0,0,1] rfl ?_
 refine Evs ?_
 have di:zmN d≤6 * 1048576:=zn9 rfl (znO e5 aw)
 refine zlL (x:=⟨jV,W0,h,_⟩) (zAt d (1:Int) _ o K m5.2.2 (by omega)) rfl (fun b a=>⟨wD (x:=d) K b a,.inl (bn b a)⟩) ?_
 rintro v dv ak ⟨rfl,g,f⟩
 replace y:=(ok_keep (x:=i) p y bp ak)
 have b8:=y.1
 clear p
 have p:=b8
 clear b8
 replace y:=y.2
 replace r:=(ok_keep (x:=F) q r br ak)
 have al:=r.1
 clear q
 have q:=al
 clear al
 replace r:=r.2
 replace m:=(ok_keep (x:=l) s m bv ak)
 have aa:=m.1
 clear s
 have s:=aa
 clear aa
 replace m:=m.2
 replace e:=znT e bn ak
 replace c:=znT c cd ak
 refine Evs ?_
 refine zlU [0,0,1] rfl ?_
 refine Evs ?_
 have dj:wd i≤6 * 1048576:=znW rfl (znO e6 ax)
 refine zlL (x:=⟨jV,W0,h,_⟩) (zAh i ((1:Int)+(zmN d:Nat)) _ p y m6.2.2 (by omega)) rfl (fun b a=>⟨wD (x:=i) y b a,.inl (bq b a)⟩) ?_
 rintro v dw am ⟨rfl,j,k⟩
 replace f:=(ok_keep (x:=(zmM d (1:Int))) g f (fun b a N=>bp b N (by first|exact a|(rw [MkOk.foot] at a;exact a)|(rw [zn7] at a;exact a))) am)
 have Q:=f.1
 clear g
 have g:=Q
 clear Q
 replace f:=f.2
 replace r:=(ok_keep (x:=F) q r bt am)
 have al:=r.1
 clear q
 have q:=al
 clear al
 replace r:=r.2
 replace m:=(ok_keep (x:=l) s m bw am)
 have aa:=m.1
 clear s
 have s:=aa
 clear aa
 replace m:=m.2
 replace e:=znT e bq am
 replace c:=znT c ce am
 refine Evs ?_
 refine zlU [0,0,1] rfl ?_
 refine Evs ?_
 have dk:wd F≤6 * 1048576:=znW rfl (znO e7 ai)
 refine zlL (x:=⟨jV,W0,h,_⟩) (zAg F (((1:Int)+(zmN d:Nat))+(wd i:Nat)) _ q r m7.2.2 (by omega)) rfl (fun b a=>⟨wD (x:=F) r b a,.inl (bu b a)⟩) ?_
 rintro v dx an ⟨rfl,u,G⟩
 replace f:=(ok_keep (x:=(zmM d (1:Int))) g f (fun b a N=>br b N (by first|exact a|(rw [MkOk.foot] at a;exact a)|(rw [zn7] at a;exact a))) an)
 have Q:=f.1
 clear g
 have g:=Q
 clear Q
 replace f:=f.2
 replace k:=(ok_keep (x:=(qb i ((1:Int)+(zmN d:Nat)))) j k (fun b a N=>bt b N (by first|exact a|(rw [MkOk.foot] at a;exact a))) an)
 have ag:=k.1
 clear j
 have j:=ag
 clear ag
 replace k:=k.2
 replace m:=(ok_keep (x:=l) s m bz an)
 have aa:=m.1
 clear s
 have s:=aa
 clear aa
 replace m:=m.2
 replace e:=znT e bu an
 replace c:=znT c cf an
 refine Evs ?_
 refine Wk ?_
 refine zhF (fun _=>zy9 _ _ _ s (jL (x:=s4) c bi)) ?_
 refine Wk ?_
 refine zc9 rfl (fun c8=>?_) (fun c8=>?_)
 ·simp only [jQ] at c8
  rcases c8 with (c8|c8)|c8
  ·(exact absurd (JE c8) (by omega))
  ·(rw [jd] at c8;exact (JF c8 (by simp only [e1,e2,e3,e4,e5,e6,e7,e8,e9,aq,a8])).elim)
  ·(exact absurd (by simp only [e1,e2,e3,e4,e5,e6,e7,e8,e9,aq,a8]) (zjD c8))
 refine zc5 ?_
 refine Evs ?_
 refine zie rfl ?_
 refine Evs ?_
 refine zlU [0,0,1] rfl ?_
 refine Evs ?_
 have b9:zmP l≤6 * 1048576:=zod e8 (zNW _ _ _ _)
 refine zlL (x:=⟨jV,W0,h,_⟩) (zAv l (1:Int) _ s m m8.2.2 (by omega)) rfl (fun b a=>⟨wD (x:=l) m b a,.inl (b7 b a)⟩) ?_
 rintro v df ao ⟨rfl,D,ab⟩
 replace f:=(ok_keep (x:=(zmM d (1:Int))) g f (fun b a N=>bv b N (by first|exact a|(rw [MkOk.foot] at a;exact a)|(rw [zn7] at a;exact a))) ao)
 have Q:=f.1
 clear g
 have g:=Q
 clear Q
 replace f:=f.2
 replace k:=(ok_keep (x:=(qb i ((1:Int)+(zmN d:Nat)))) j k (fun b a N=>bw b N (by first|exact a|(rw [MkOk.foot] at a;exact a))) ao)
 have ag:=k.1
 clear j
 have j:=ag
 clear ag
 replace k:=k.2
 replace G:=(ok_keep (x:=(qb F (((1:Int)+(zmN d:Nat))+(wd i:Nat)))) u G (fun b a N=>bz b N (by first|exact a|(rw [MkOk.foot] at a;exact a))) ao)
 have bj:=G.1
 clear u
 have u:=bj
 clear bj
 replace G:=G.2
 replace e:=znT e b7 ao
 replace c:=znT c cg ao
 refine Evs ?_
 refine Wk ?_
 have co:=zAz (zmO l (1:Int)) 1 df D (zob l 1) (by have h0:=b9;have h1:=zoa l (1:Int);(try rw [h1]);omega)
 rw [show (zmO l (1:Int)).v=(l).v from by simp only [zmO,DStrategy.v,znX]] at co
 refine zhF (fun _=>co) ?_
 refine Wk ?_
 refine zc9 rfl (fun c9=>?_) (fun c9=>?_)
 ·(exact absurd (JE c9) (by omega))
 refine Wk ?_
 refine zc9 rfl (fun cp=>?_) (fun cp=>?_)
 ·(exact absurd (by first|rfl|rw [MkOk.cnt]|(simp only [MkOk.cnt])|(simp only [zoa])) (zjD cp))
 refine Wk ?_
 refine zkr (zyJ _ _ (jL (x:=Y) e au) aw) rfl ?_
 rintro v dy R ⟨ca,rfl,cq,ac,dz⟩
 replace f:=znS (x:=(zmM d (1:Int))) R g f
 replace g:=jL (x:=(zmM d (1:Int))) R g
 replace k:=znS (x:=(qb i ((1:Int)+(zmN d:Nat)))) R j k
 replace j:=jL (x:=(qb i ((1:Int)+(zmN d:Nat)))) R j
 replace G:=znS (x:=(qb F (((1:Int)+(zmN d:Nat))+(wd i:Nat)))) R u G
 replace u:=jL (x:=(qb F (((1:Int)+(zmN d:Nat))+(wd i:Nat)))) R u
 replace ab:=znS (x:=(zmO l (1:Int))) R D ab
 replace D:=jL (x:=(zmO l (1:Int))) R D
 replace e:=jB e R
 replace c:=jB c R
 refine Wk ?_
 refine zkr (zyz _ _ (jL (x:=a1) e av) ax) rfl ?_
 rintro v d5 O ⟨cr,rfl,ct,ap,d7⟩
 replace f:=znS (x:=(zmM d (1:Int))) O g f
 replace g:=jL (x:=(zmM d (1:Int))) O g
 replace k:=znS (x:=(qb i ((1:Int)+(zmN d:Nat)))) O j k
 replace j:=jL (x:=(qb i ((1:Int)+(zmN d:Nat)))) O j
 replace G:=znS (x:=(qb F (((1:Int)+(zmN d:Nat))+(wd i:Nat)))) O u G
 replace u:=jL (x:=(qb F (((1:Int)+(zmN d:Nat))+(wd i:Nat)))) O u
 replace ab:=znS (x:=(zmO l (1:Int))) O D ab
 replace D:=jL (x:=(zmO l (1:Int))) O D
 replace ac:=jL (x:=ca) O ac
 replace e:=jB e O
 replace c:=jB c O
 refine Wk ?_
 refine zkr (zys _ _ (jL (x:=a3) e bg) ai) rfl ?_
 rintro v d8 M ⟨dg,rfl,cb,bf,d9⟩
 replace f:=znS (x:=(zmM d (1:Int))) M g f
 replace g:=jL (x:=(zmM d (1:Int))) M g
 replace k:=znS (x:=(qb i ((1:Int)+(zmN d:Nat)))) M j k
 replace j:=jL (x:=(qb i ((1:Int)+(zmN d:Nat)))) M j
 replace G:=znS (x:=(qb F (((1:Int)+(zmN d:Nat))+(wd i:Nat)))) M u G
 replace u:=jL (x:=(qb F (((1:Int)+(zmN d:Nat))+(wd i:Nat)))) M u
 replace ab:=znS (x:=(zmO l (1:Int))) M D ab
 replace D:=jL (x:=(zmO l (1:Int))) M D
 replace ac:=jL (x:=ca) M ac
 replace ap:=jL (x:=cr) M ap
 replace e:=jB e M
 replace c:=jB c M
 refine Wk ?_
 refine zkr (zNT _ _ _ _ _ ac ap bk bf (znO cb ai)) rfl ?_
 rintro v dh H ⟨eh,rfl,cu,db,ei⟩
 replace f:=znS (x:=(zmM d (1:Int))) H g f
 replace g:=jL (x:=(zmM d (1:Int))) H g
 replace k:=znS (x:=(qb i ((1:Int)+(zmN d:Nat)))) H j k
 replace j:=jL (x:=(qb i ((1:Int)+(zmN d:Nat)))) H j
 replace G:=znS (x:=(qb F (((1:Int)+(zmN d:Nat))+(wd i:Nat)))) H u G
 replace u:=jL (x:=(qb F (((1:Int)+(zmN d:Nat))+(wd i:Nat)))) H u
 replace ab:=znS (x:=(zmO l (1:Int))) H D ab
 replace D:=jL (x:=(zmO l (1:Int))) H D
 replace ac:=jL (x:=ca) H ac
 replace ap:=jL (x:=cr) H ap
 replace bf:=jL (x:=dg) H bf
 replace e:=jB e H
 replace c:=jB c H
 refine Wk ?_
 refine zhF (fun _=>zy9 _ _ _ db (jL (x:=s4) c bi)) ?_
 refine Wk ?_
 refine zc9 rfl (fun ah=>?_) (fun ah=>?_)
 ·simp only [jQ] at ah
  rcases ah with ah|ah
  ·(rw [jd] at ah;exact (JF ah (by simp only [e1,e2,e3,e4,e5,e6,e7,e8,e9,aq,a8,cq,ct,cb,cu])).elim)
  ·(exact absurd (by simp only [e1,e2,e3,e4,e5,e6,e7,e8,e9,aq,a8,cq,ct,cb,cu]) (zjD ah))
 refine Wk ?_
 have cw:=zAz (zmO l (1:Int)) 1 dh D (zob l 1) (by have h0:=b9;have h1:=zoa l (1:Int);(try rw [h1]);omega)
 rw [show (zmO l (1:Int)).v=(l).v from by simp only [zmO,DStrategy.v,znX]] at cw
 refine zhF (fun _=>cw) ?_
 refine Wk ?_
 refine zc9 rfl (fun cy=>?_) (fun cy=>?_)
 ·(exact absurd (JE cy) (by omega))
 refine Wk ?_
 refine zc9 rfl (fun cz=>?_) (fun cz=>?_)
 ·(exact absurd (by first|rfl|rw [MkOk.cnt]|(simp only [MkOk.cnt])|(simp only [zoa])) (zjD cz))
 exact Wk0
set_option maxRecDepth 100000 in
theorem zOk (s:Os) (c:s.Started) (H:Type) (enc:TypeId × Value→H) :
  ReturnsInHanded {} Tryz.checked s 3 .any (Rows.fnExactWaitStrategySpec.pre6 enc jV Tryz.f3 Rows.fnExactWaitStrategyRow.domain false) (Rows.fnExactWaitStrategySpec.post enc jV Tryz.f3 false true false false):=by
 refine returnsInHanded_of_change (C:=Tryz.checked) Tryz.own c (by kernel_rfl) Tryz.func3
  (ChangeSpec.witness6 (enc:=enc) (C:=Tryz.checked) false ⟨#[],#[.agg #[.int .i64 0,.slice none 0 0,.slice none 0 0,.slice none 0 0,.slice none 0 0,.slice none 0 0,.int .i64 0,.bool false,.int .i64 0,.int .i64 0,.int .i64 0,.slice none 0 0],.slice none 0 0,.int .i64 0,.slice none 0 0],[]⟩ 8 (by kernel_rfl) (by kernel_rfl) (by kernel_rfl) (by kernel_rfl)) ?_
 intro W o b N gs u f w O _
 have a:∀ (j:Nat) t v,Tryz.f3.params[j]?=some t→b[j]?=some v→Value.okWide jV W .any o t v:=f
 have d:=w
 obtain ⟨p,q,y,Q,rfl,aa,ab⟩:=w
 have r:DataW.TrodAll enc jV W 0 (fun _=>true) true Tryz.f3.params.toList b.toList N p:=y
 rw [Tryz.params3] at r a
 obtain ⟨b⟩:=b
 obtain ⟨rfl,rfl⟩:=trodVars_none Q
 have g:=r
 obtain ⟨R,ac,d0,ae,X,q0,h,rfl,rfl,Y,r0⟩:=trodAll_cons r
 obtain ⟨Z,ag,d1,ah,p1,q1,i,rfl,rfl,k1,r1⟩:=trodAll_cons r0
 obtain ⟨v2,ai,d2,aj,p2,q2,k,rfl,rfl,k2,r2⟩:=trodAll_cons r1
 obtain ⟨v3,ak,d3,al,p3,q3,l,rfl,rfl,k3,r3⟩:=trodAll_cons r2
 obtain ⟨m,rfl,rfl⟩:=trodAll_nil r3
 simp only at h i k l m
 subst m
 subst l
 subst k
 subst i
 subst h
 obtain ⟨a0,rfl,z⟩:=zlH Tryz.underlying39 zOj (a 0 _ R rfl rfl) Y
 obtain ⟨a1,rfl,D⟩:=zlG Tryz.underlying40 zN2 (a 1 _ Z rfl rfl) k1
 obtain ⟨a2,rfl,F⟩:=zlI Tryz.underlying3 (a 2 _ v2 rfl rfl) k2
 obtain ⟨a3,rfl,G⟩:=zlG Tryz.underlying35 opens_IntS (a 3 _ v3 rfl rfl) k3
 simp only [yJ] at d g
 have n:=FnExactWaitStrategy_fn a0 a1 a2 a3 (vw W) z D F G
 unfold Ct at n
 refine (n.2 W (zks W)).mono fun e W' ⟨v,h',he,hv,J,_⟩=>?_
 subst he hv
 have K:∀ x ∈ (X ++ (p1 ++ (p2 ++ (p3)))),x.block < W.heap.size:=fun x hx=>d.lt x hx
 exact ⟨_,rfl,zky d J (fun _=>rfl) (fun _ _ _=>trodAll_mk1 (shut_bool Tryz.underlying4 true))
  (fun sp M=>zlJ Tryz.laidOut J (by kernel_rfl) K M g)⟩
set_option maxRecDepth 100000 in
set_option maxHeartbeats 200000000 in
theorem zOl:joinedFacts Tryz.pinned.checked.prog 3 Tryz.f3 Rows.fnExactWaitStrategySpec Rows.fnExactWaitStrategyRow=true:=by
 unfold joinedFacts
 repeat' (rw [jJ];constructor)
 all_goals (as_aux_lemma=>kernel_rfl)
set_option maxRecDepth 100000 in
theorem FnExactWaitStrategy_holds:Rows.FnExactWaitStrategySaid :=
 OpenClaim.holds_of_wide 3 Tryz.f3 rfl rfl rfl rfl rfl rfl rfl ⟨rfl,rfl,rfl,rfl,rfl⟩ rfl rfl rfl rfl rfl (by as_aux_lemma=>kernel_rfl) Tryz.func3 zOl
  (JE (by as_aux_lemma=>kernel_rfl)) (by unfold Func.isWrapper;rw [if_neg (JF (by as_aux_lemma=>kernel_rfl))];exact ⟨rfl,rfl⟩)
  (fun b a H enc _=>zOk b a H enc)
end Go.Proofs.YtbkaaakphpbmiaaGreat
