/- The walk of a law of the given program, and the law itself as it is stated: it holds of every input. No condition. -/
import Derived.Test.YtbkaaakphpbmiaaGreatRows
import Derived.Test.YtbkaaakphpbmiaaGreatSGBestPlanx17
import Derived.Test.YtbkaaakphpbmiaaGreatXGBestPlan22
import Derived.Test.YtbkaaakphpbmiaaGreatXGBestPlan28
import Derived.Test.YtbkaaakphpbmiaaGreatXGBestPlan6
import Derived.Test.YtbkaaakphpbmiaaGreatXGBestPlan8
set_option linter.unusedVariables false
set_option linter.unusedSimpArgs false
set_option maxRecDepth 4000
open Nat renaming reduceAdd → jq, reduceMul → jj, reduceBEq → jy, reduceLeDiff → jv, reduceLT → jk, reduceEqDiff → jx
open Bool renaming or_eq_false_iff → jp, or_eq_true → jQ, and_eq_true → jJ
open Int renaming toNat_natCast → jW, natCast_nonneg → jY
open Go.Proofs.Tryz renaming prog → jV
namespace Go.Proofs.YtbkaaakphpbmiaaGreat
open Go Go.SL Go.RowKit Go.ChangeShapes Go.WideShapes Go.ChangeAt
set_option maxHeartbeats 1000000
set_option maxRecDepth 100000 in
theorem FnExactOptionAt_fn (a0:DHarbour) (a1:DCall) (a2:Sl Int) (a3:Int) (h:Hp) (oa0:Enc.ok h a0) (oa1:Enc.ok h a1) (oa2:Enc.ok h a2) (oa3:Enc.ok h a3):Ct jV 5 [.agg #[.int .i64 a0.forecast.tide.mean,a0.forecast.tide.parts.val,a0.forecast.surges.val,a0.chart.points.val,a0.chart.segments.val,a0.fleet.val,.int .i64 a0.regime.gap,.bool a0.regime.noMeet,.int .i64 a0.crew.tugs,.int .i64 a0.crew.pilots,.int .i64 a0.crew.rest,a0.crew.moves.val],.agg #[.int .i64 a1.ship,.int .i64 a1.src,.int .i64 a1.dst,.int .i64 a1.ready,.int .i64 a1.due],a2.val,.int .i64 a3] h fun v h'=>v=.bool true:=by
 refine zdn (fun A W=>by simp) Tryz.func5 rfl rfl (by simp) fun W0=>?_
 refine Wk ?_
 refine zc9 rfl (fun c1=>?_) (fun c1=>?_)
 ·exact Wk0
 have hb2:Blk.blk a2≤1048576:=by
  rw [zOI (fun _=>rfl)]
  have:=of_decide_eq_false c1
  omega
 refine Wk ?_
 refine zhF (fun _=>zXV _ _ _ oa0 (by omega)) ?_
 refine Wk ?_
 refine zc9 rfl (fun c2=>?_) (fun c2=>?_)
 ·exact Wk0
 have hp0:=zOL c2
 have hn0:=zON (show (0:Int)≤1048576∧(1048576:Int)≤1048576 by omega) hp0
 have hb0:Blk.blk a0≤1048576:=by have h1:=zOO hp0;have h2:=(show (0:Int)≤1048576∧(1048576:Int)≤1048576 by omega);omega
 refine Wk ?_
 refine zod (ι:=Hp × DOption × Bool) (fun j=>⟨[(2,true,.c (.v a2.val)),(3,true,.c (.v (.int .i64 a3))),(4,true,.c (.p 0 0)),(5,true,.c (.p 1 0)),(10,true,.c (.p 2 0)),(11,true,.c (.v (.bool j.2.2)))],[(0,.box 39 [.v (.int .i64 a0.forecast.tide.mean),.v (a0.forecast.tide.parts.val),.v (a0.forecast.surges.val),.v (a0.chart.points.val),.v (a0.chart.segments.val),.v (a0.fleet.val),.v (.int .i64 a0.regime.gap),.v (.bool a0.regime.noMeet),.v (.int .i64 a0.crew.tugs),.v (.int .i64 a0.crew.pilots),.v (.int .i64 a0.crew.rest),.v (a0.crew.moves.val)]),(1,.box 77 [.v (.int .i64 a1.ship),.v (.int .i64 a1.src),.v (.int .i64 a1.dst),.v (.int .i64 a1.ready),.v (.int .i64 a1.due)]),(2,.box 84 [.v (.int .i64 j.2.1.start),.v (.int .i64 j.2.1.arr),.v (.int .i64 j.2.1.cost),.v (j.2.1.pas.val)])],j.1,3⟩) (fun j=>h.le j.1∧Con.con j.2.1=(zyR (Con.con a0) (Con.con a1) (Con.con a2) a3).1∧Enc.ok j.1 j.2.1∧j.2.2=(zyR (Con.con a0) (Con.con a1) (Con.con a2) a3).2∧Mine h j.1 j.2.1) (fun _=>rfl) ?_ ?_
 ·refine znv rfl ?_
  refine U_t [0,2,4,6] rfl ?_
  refine Evs ?_
  refine U_m 1 [11] ⟨?_,?_,trivial⟩
  ·refine U_b 1 0 [2] rfl rfl ?_
   refine Evs ?_
   refine zkj (zYe _ _ oa0 hb0) rfl ?_
   rintro v h1 le1 ⟨s1,rfl,e1,ok1,m1⟩
   have Lh:=le1
   refine Evs ?_
   refine U_m 3 [11] ⟨?_,?_,trivial⟩
   ·refine U_b 3 0 [] rfl rfl ?_
    refine Evs ?_
    refine zhF (fun _=>zXW _ _) ?_
    refine Evs ?_
    refine U_m 5 [11] ⟨?_,?_,trivial⟩
    ·refine U_b 5 0 [] rfl rfl ?_
     refine Evs ?_
     refine zkj (zXX _ _ (Enc.mono (x:=a2) Lh oa2) hb2) rfl ?_
     rintro v h2 le2 ⟨s2,rfl,e2,ok2,m2⟩
     replace ok1:=Enc.mono (x:=s1) le2 ok1
     replace Lh:=Hp.le_trans Lh le2
     refine Evs ?_
     refine U_m 7 [11] ⟨?_,?_,trivial⟩
     ·refine U_b 7 0 [] rfl rfl ?_
      refine Evs ?_
      refine zkj (z0e _ _ _ _ _ ok1 (Enc.mono (x:=a1) Lh oa1) ok2 oa3 (zPE e2 hb2)) rfl ?_
      rintro v h3 le3 ⟨s3,rfl,e3,ok3,m3⟩
      replace ok1:=Enc.mono (x:=s1) le3 ok1
      replace ok2:=Enc.mono (x:=s2) le3 ok2
      replace Lh:=Hp.le_trans Lh le3
      have okw:=ok3
      have Lh3:=Hp.le_refl h3
      refine Evs ?_
      refine U_t [8,9,10] rfl ?_
      refine Evs ?_
      refine U_1 11 0 [10,9] rfl rfl ?_
      refine Evs ?_
      refine U_1 12 0 [10] rfl rfl ?_
      refine Evs ?_
      refine U_t [13] rfl ?_
      refine Evs ?_
      refine U_d ?_
      refine ⟨(h3,s3,(zyR (Con.con s1) (Con.con a1) (Con.con s2) a3).2),[0,1,2],⟨(Hp.le_trans le1 (Hp.le_trans le2 le3)),by rw [e3,e1,e2],ok3,by simp only [e1,e2],m3.back (Hp.le_trans le1 le2)⟩,?_⟩
      refine Evs ?_
      exact Gk
     ·refine U_b 11 0 [] rfl rfl ?_
      refine Evs ?_
      refine U_1 7 0 [] rfl rfl ?_
      refine Evs ?_
      refine zkj (z0e _ _ _ _ _ ok1 (Enc.mono (x:=a1) Lh oa1) ok2 oa3 (zPE e2 hb2)) rfl ?_
      rintro v h3 le3 ⟨s3,rfl,e3,ok3,m3⟩
      replace ok1:=Enc.mono (x:=s1) le3 ok1
      replace ok2:=Enc.mono (x:=s2) le3 ok2
      replace Lh:=Hp.le_trans Lh le3
      have okw:=ok3
      have Lh3:=Hp.le_refl h3
      refine Evs ?_
      refine U_t [8,9,10] rfl ?_
      refine Evs ?_
      refine U_1 12 0 [10] rfl rfl ?_
      refine Evs ?_
      refine U_t [13] rfl ?_
      refine Evs ?_
      refine U_d ?_
      refine ⟨(h3,s3,(zyR (Con.con s1) (Con.con a1) (Con.con s2) a3).2),[0,1,2],⟨(Hp.le_trans le1 (Hp.le_trans le2 le3)),by rw [e3,e1,e2],ok3,by simp only [e1,e2],m3.back (Hp.le_trans le1 le2)⟩,?_⟩
      refine Evs ?_
      exact Gk
    ·refine U_b 11 0 [] rfl rfl ?_
     refine Evs ?_
     refine U_1 5 0 [] rfl rfl ?_
     refine Evs ?_
     refine zkj (zXX _ _ (Enc.mono (x:=a2) Lh oa2) hb2) rfl ?_
     rintro v h2 le2 ⟨s2,rfl,e2,ok2,m2⟩
     replace ok1:=Enc.mono (x:=s1) le2 ok1
     replace Lh:=Hp.le_trans Lh le2
     refine Evs ?_
     refine U_1 7 0 [] rfl rfl ?_
     refine Evs ?_
     refine zkj (z0e _ _ _ _ _ ok1 (Enc.mono (x:=a1) Lh oa1) ok2 oa3 (zPE e2 hb2)) rfl ?_
     rintro v h3 le3 ⟨s3,rfl,e3,ok3,m3⟩
     replace ok1:=Enc.mono (x:=s1) le3 ok1
     replace ok2:=Enc.mono (x:=s2) le3 ok2
     replace Lh:=Hp.le_trans Lh le3
     have okw:=ok3
     have Lh3:=Hp.le_refl h3
     refine Evs ?_
     refine U_t [8,9,10] rfl ?_
     refine Evs ?_
     refine U_1 12 0 [10] rfl rfl ?_
     refine Evs ?_
     refine U_t [13] rfl ?_
     refine Evs ?_
     refine U_d ?_
     refine ⟨(h3,s3,(zyR (Con.con s1) (Con.con a1) (Con.con s2) a3).2),[0,1,2],⟨(Hp.le_trans le1 (Hp.le_trans le2 le3)),by rw [e3,e1,e2],ok3,by simp only [e1,e2],m3.back (Hp.le_trans le1 le2)⟩,?_⟩
     refine Evs ?_
     exact Gk
   ·refine U_b 11 0 [2] rfl rfl ?_
    refine Evs ?_
    refine U_1 3 0 [] rfl rfl ?_
    refine Evs ?_
    refine zhF (fun _=>zXW _ _) ?_
    refine Evs ?_
    refine U_1 5 0 [] rfl rfl ?_
    refine Evs ?_
    refine zkj (zXX _ _ (Enc.mono (x:=a2) Lh oa2) hb2) rfl ?_
    rintro v h2 le2 ⟨s2,rfl,e2,ok2,m2⟩
    replace ok1:=Enc.mono (x:=s1) le2 ok1
    replace Lh:=Hp.le_trans Lh le2
    refine Evs ?_
    refine U_1 7 0 [] rfl rfl ?_
    refine Evs ?_
    refine zkj (z0e _ _ _ _ _ ok1 (Enc.mono (x:=a1) Lh oa1) ok2 oa3 (zPE e2 hb2)) rfl ?_
    rintro v h3 le3 ⟨s3,rfl,e3,ok3,m3⟩
    replace ok1:=Enc.mono (x:=s1) le3 ok1
    replace ok2:=Enc.mono (x:=s2) le3 ok2
    replace Lh:=Hp.le_trans Lh le3
    have okw:=ok3
    have Lh3:=Hp.le_refl h3
    refine Evs ?_
    refine U_t [8,9,10] rfl ?_
    refine Evs ?_
    refine U_1 12 0 [10] rfl rfl ?_
    refine Evs ?_
    refine U_t [13] rfl ?_
    refine Evs ?_
    refine U_d ?_
    refine ⟨(h3,s3,(zyR (Con.con s1) (Con.con a1) (Con.con s2) a3).2),[0,1,2],⟨(Hp.le_trans le1 (Hp.le_trans le2 le3)),by rw [e3,e1,e2],ok3,by simp only [e1,e2],m3.back (Hp.le_trans le1 le2)⟩,?_⟩
    refine Evs ?_
    exact Gk
  ·refine U_b 11 0 [2,0] rfl rfl ?_
   refine Evs ?_
   refine U_1 1 0 [2] rfl rfl ?_
   refine Evs ?_
   refine zkj (zYe _ _ oa0 hb0) rfl ?_
   rintro v h1 le1 ⟨s1,rfl,e1,ok1,m1⟩
   have Lh:=le1
   refine Evs ?_
   refine U_1 3 0 [] rfl rfl ?_
   refine Evs ?_
   refine zhF (fun _=>zXW _ _) ?_
   refine Evs ?_
   refine U_1 5 0 [] rfl rfl ?_
   refine Evs ?_
   refine zkj (zXX _ _ (Enc.mono (x:=a2) Lh oa2) hb2) rfl ?_
   rintro v h2 le2 ⟨s2,rfl,e2,ok2,m2⟩
   replace ok1:=Enc.mono (x:=s1) le2 ok1
   replace Lh:=Hp.le_trans Lh le2
   refine Evs ?_
   refine U_1 7 0 [] rfl rfl ?_
   refine Evs ?_
   refine zkj (z0e _ _ _ _ _ ok1 (Enc.mono (x:=a1) Lh oa1) ok2 oa3 (zPE e2 hb2)) rfl ?_
   rintro v h3 le3 ⟨s3,rfl,e3,ok3,m3⟩
   replace ok1:=Enc.mono (x:=s1) le3 ok1
   replace ok2:=Enc.mono (x:=s2) le3 ok2
   replace Lh:=Hp.le_trans Lh le3
   have okw:=ok3
   have Lh3:=Hp.le_refl h3
   refine Evs ?_
   refine U_t [8,9,10] rfl ?_
   refine Evs ?_
   refine U_1 12 0 [10] rfl rfl ?_
   refine Evs ?_
   refine U_t [13] rfl ?_
   refine Evs ?_
   refine U_d ?_
   refine ⟨(h3,s3,(zyR (Con.con s1) (Con.con a1) (Con.con s2) a3).2),[0,1,2],⟨(Hp.le_trans le1 (Hp.le_trans le2 le3)),by rw [e3,e1,e2],ok3,by simp only [e1,e2],m3.back (Hp.le_trans le1 le2)⟩,?_⟩
   refine Evs ?_
   exact Gk
 rintro ⟨h3,s3,b3⟩ ⟨le3,e3,ok3,hb3',m3⟩
 simp only at le3 e3 ok3 hb3' m3
 subst hb3'
 have Lh:=le3
 have okw:=ok3
 have Lh3:=Hp.le_refl h3
 refine Wk ?_
 refine zkj (zYe _ _ (Enc.mono (x:=a0) Lh oa0) hb0) rfl ?_
 rintro v h4 le4 ⟨s4,rfl,e4,ok4,m4⟩
 have n4_h:∀ b ∈ Foot.foot s4,h b=none:=fun b hb=>zmx Lh (m4.2.1 b hb)
 have n4_h3:∀ b ∈ Foot.foot s4,h3 b=none:=fun b hb=>zmx Lh3 (m4.2.1 b hb)
 replace Lh:=Hp.le_trans Lh le4
 replace Lh3:=Hp.le_trans Lh3 le4
 have ow4:=m4.1
 refine Wk ?_
 refine zkj (zXX _ _ (Enc.mono (x:=a2) Lh oa2) hb2) rfl ?_
 rintro v h5 le5 ⟨s5,rfl,e5,ok5,m5⟩
 have d5_4:∀ b ∈ Foot.foot s5,¬ (b ∈ Foot.foot s4):=fun b hb hu=>Foot.dom (x:=s4) ow4 b hu (m5.2.1 b hb)
 have n5_h:∀ b ∈ Foot.foot s5,h b=none:=fun b hb=>zmx Lh (m5.2.1 b hb)
 have n5_h3:∀ b ∈ Foot.foot s5,h3 b=none:=fun b hb=>zmx Lh3 (m5.2.1 b hb)
 replace ow4:=zPF (x:=s4) le5 ok4 ow4
 replace ok4:=Enc.mono (x:=s4) le5 ok4
 replace Lh:=Hp.le_trans Lh le5
 replace Lh3:=Hp.le_trans Lh3 le5
 have ow5:=m5.1
 refine Wk ?_
 refine zod (ι:=Hp × DOption × Bool) (fun j=>⟨[(2,true,.c (.v a2.val)),(3,true,.c (.v (.int .i64 a3))),(4,true,.c (.p 0 0)),(5,true,.c (.p 1 0)),(10,true,.c (.p 2 0)),(11,true,.c (.v (.bool (zyR (Con.con a0) (Con.con a1) (Con.con a2) a3).2))),(12,true,.c (.p 3 0)),(13,true,.c (.v s5.val)),(14,true,.c (.p 4 0)),(15,true,.c (.v (.bool j.2.2)))],[(0,.box 39 [.v (.int .i64 a0.forecast.tide.mean),.v (a0.forecast.tide.parts.val),.v (a0.forecast.surges.val),.v (a0.chart.points.val),.v (a0.chart.segments.val),.v (a0.fleet.val),.v (.int .i64 a0.regime.gap),.v (.bool a0.regime.noMeet),.v (.int .i64 a0.crew.tugs),.v (.int .i64 a0.crew.pilots),.v (.int .i64 a0.crew.rest),.v (a0.crew.moves.val)]),(1,.box 77 [.v (.int .i64 a1.ship),.v (.int .i64 a1.src),.v (.int .i64 a1.dst),.v (.int .i64 a1.ready),.v (.int .i64 a1.due)]),(2,.box 84 [.v (.int .i64 s3.start),.v (.int .i64 s3.arr),.v (.int .i64 s3.cost),.v (s3.pas.val)]),(3,.box 62 [.v (.int .i64 s4.forecast.tide.mean),.v (s4.forecast.tide.parts.val),.v (s4.forecast.surges.val),.v (s4.chart.points.val),.v (s4.chart.segments.val),.v (s4.fleet.val),.v (.int .i64 s4.regime.gap),.v (.bool s4.regime.noMeet),.v (.int .i64 s4.crew.tugs),.v (.int .i64 s4.crew.pilots),.v (.int .i64 s4.crew.rest),.v (s4.crew.moves.val)]),(4,.box 84 [.v (.int .i64 j.2.1.start),.v (.int .i64 j.2.1.arr),.v (.int .i64 j.2.1.cost),.v (j.2.1.pas.val)])],j.1,5⟩) (fun j=>h5.le j.1∧Con.con j.2.1=(zyR (Con.con a0) (Con.con a1) (Con.con a2) a3).1∧Enc.ok j.1 j.2.1∧j.2.2=(zyR (Con.con a0) (Con.con a1) (Con.con a2) a3).2∧Mine h5 j.1 j.2.1) (fun _=>rfl) ?_ ?_
 ·refine znv rfl ?_
  refine U_t [0,1,3,4] rfl ?_
  refine Evs ?_
  refine U_m 2 [9] ⟨?_,?_,trivial⟩
  ·refine U_b 2 0 [0] rfl rfl ?_
   refine Evs ?_
   refine zhF (fun _=>zXW _ _) ?_
   refine Evs ?_
   refine U_m 5 [9] ⟨?_,?_,trivial⟩
   ·refine U_b 5 0 [] rfl rfl ?_
    refine Evs ?_
    refine zkj (z0d _ _ _ _ _ ok4 (Enc.mono (x:=a1) Lh oa1) ok5 oa3 (zPE e5 hb2)) rfl ?_
    rintro v h6 le6 ⟨s6,rfl,e6,ok6,m6⟩
    have d6_4:∀ b ∈ Foot.foot s6,¬ (b ∈ Foot.foot s4):=fun b hb hu=>Foot.dom (x:=s4) ow4 b hu (m6.2.1 b hb)
    have d6_5:∀ b ∈ Foot.foot s6,¬ (b ∈ Foot.foot s5):=fun b hb hu=>Foot.dom (x:=s5) ow5 b hu (m6.2.1 b hb)
    have n6_h:∀ b ∈ Foot.foot s6,h b=none:=fun b hb=>zmx Lh (m6.2.1 b hb)
    have n6_h3:∀ b ∈ Foot.foot s6,h3 b=none:=fun b hb=>zmx Lh3 (m6.2.1 b hb)
    replace ow4:=zPF (x:=s4) le6 ok4 ow4
    replace ok4:=Enc.mono (x:=s4) le6 ok4
    replace ow5:=zPF (x:=s5) le6 ok5 ow5
    replace ok5:=Enc.mono (x:=s5) le6 ok5
    replace Lh:=Hp.le_trans Lh le6
    replace Lh3:=Hp.le_trans Lh3 le6
    have ow6:=m6.1
    refine Evs ?_
    refine U_t [6,7,8] rfl ?_
    refine Evs ?_
    refine U_1 9 0 [8,7] rfl rfl ?_
    refine Evs ?_
    refine U_1 10 0 [8] rfl rfl ?_
    refine Evs ?_
    refine U_t [11] rfl ?_
    refine Evs ?_
    refine U_d ?_
    refine ⟨(h6,s6,(zyR (Con.con s4) (Con.con a1) (Con.con s5) a3).2),[0,1,2,3,4],⟨le6,by rw [e6,e4,e5],ok6,by simp only [e4,e5],m6⟩,?_⟩
    refine Evs ?_
    exact Gk
   ·refine U_b 9 0 [0] rfl rfl ?_
    refine Evs ?_
    refine U_1 5 0 [] rfl rfl ?_
    refine Evs ?_
    refine zkj (z0d _ _ _ _ _ ok4 (Enc.mono (x:=a1) Lh oa1) ok5 oa3 (zPE e5 hb2)) rfl ?_
    rintro v h6 le6 ⟨s6,rfl,e6,ok6,m6⟩
    have d6_4:∀ b ∈ Foot.foot s6,¬ (b ∈ Foot.foot s4):=fun b hb hu=>Foot.dom (x:=s4) ow4 b hu (m6.2.1 b hb)
    have d6_5:∀ b ∈ Foot.foot s6,¬ (b ∈ Foot.foot s5):=fun b hb hu=>Foot.dom (x:=s5) ow5 b hu (m6.2.1 b hb)
    have n6_h:∀ b ∈ Foot.foot s6,h b=none:=fun b hb=>zmx Lh (m6.2.1 b hb)
    have n6_h3:∀ b ∈ Foot.foot s6,h3 b=none:=fun b hb=>zmx Lh3 (m6.2.1 b hb)
    replace ow4:=zPF (x:=s4) le6 ok4 ow4
    replace ok4:=Enc.mono (x:=s4) le6 ok4
    replace ow5:=zPF (x:=s5) le6 ok5 ow5
    replace ok5:=Enc.mono (x:=s5) le6 ok5
    replace Lh:=Hp.le_trans Lh le6
    replace Lh3:=Hp.le_trans Lh3 le6
    have ow6:=m6.1
    refine Evs ?_
    refine U_t [6,7,8] rfl ?_
    refine Evs ?_
    refine U_1 10 0 [8] rfl rfl ?_
    refine Evs ?_
    refine U_t [11] rfl ?_
    refine Evs ?_
    refine U_d ?_
    refine ⟨(h6,s6,(zyR (Con.con s4) (Con.con a1) (Con.con s5) a3).2),[0,1,2,3,4],⟨le6,by rw [e6,e4,e5],ok6,by simp only [e4,e5],m6⟩,?_⟩
    refine Evs ?_
    exact Gk
  ·refine U_b 9 0 [1,0] rfl rfl ?_
   refine Evs ?_
   refine U_1 2 0 [0] rfl rfl ?_
   refine Evs ?_
   refine zhF (fun _=>zXW _ _) ?_
   refine Evs ?_
   refine U_1 5 0 [] rfl rfl ?_
   refine Evs ?_
   refine zkj (z0d _ _ _ _ _ ok4 (Enc.mono (x:=a1) Lh oa1) ok5 oa3 (zPE e5 hb2)) rfl ?_
   rintro v h6 le6 ⟨s6,rfl,e6,ok6,m6⟩
   have d6_4:∀ b ∈ Foot.foot s6,¬ (b ∈ Foot.foot s4):=fun b hb hu=>Foot.dom (x:=s4) ow4 b hu (m6.2.1 b hb)
   have d6_5:∀ b ∈ Foot.foot s6,¬ (b ∈ Foot.foot s5):=fun b hb hu=>Foot.dom (x:=s5) ow5 b hu (m6.2.1 b hb)
   have n6_h:∀ b ∈ Foot.foot s6,h b=none:=fun b hb=>zmx Lh (m6.2.1 b hb)
   have n6_h3:∀ b ∈ Foot.foot s6,h3 b=none:=fun b hb=>zmx Lh3 (m6.2.1 b hb)
   replace ow4:=zPF (x:=s4) le6 ok4 ow4
   replace ok4:=Enc.mono (x:=s4) le6 ok4
   replace ow5:=zPF (x:=s5) le6 ok5 ow5
   replace ok5:=Enc.mono (x:=s5) le6 ok5
   replace Lh:=Hp.le_trans Lh le6
   replace Lh3:=Hp.le_trans Lh3 le6
   have ow6:=m6.1
   refine Evs ?_
   refine U_t [6,7,8] rfl ?_
   refine Evs ?_
   refine U_1 10 0 [8] rfl rfl ?_
   refine Evs ?_
   refine U_t [11] rfl ?_
   refine Evs ?_
   refine U_d ?_
   refine ⟨(h6,s6,(zyR (Con.con s4) (Con.con a1) (Con.con s5) a3).2),[0,1,2,3,4],⟨le6,by rw [e6,e4,e5],ok6,by simp only [e4,e5],m6⟩,?_⟩
   refine Evs ?_
   exact Gk
 rintro ⟨h6,s6,b6⟩ ⟨le6,e6,ok6,hb6',m6⟩
 simp only at le6 e6 ok6 hb6' m6
 subst hb6'
 have d6_4:∀ b ∈ Foot.foot s6,¬ (b ∈ Foot.foot s4):=fun b hb hu=>Foot.dom (x:=s4) ow4 b hu (m6.2.1 b hb)
 have d6_5:∀ b ∈ Foot.foot s6,¬ (b ∈ Foot.foot s5):=fun b hb hu=>Foot.dom (x:=s5) ow5 b hu (m6.2.1 b hb)
 have n6_h:∀ b ∈ Foot.foot s6,h b=none:=fun b hb=>zmx Lh (m6.2.1 b hb)
 have n6_h3:∀ b ∈ Foot.foot s6,h3 b=none:=fun b hb=>zmx Lh3 (m6.2.1 b hb)
 replace ow4:=zPF (x:=s4) le6 ok4 ow4
 replace ok4:=Enc.mono (x:=s4) le6 ok4
 replace ow5:=zPF (x:=s5) le6 ok5 ow5
 replace ok5:=Enc.mono (x:=s5) le6 ok5
 replace Lh:=Hp.le_trans Lh le6
 replace Lh3:=Hp.le_trans Lh3 le6
 have ow6:=m6.1
 refine Wk ?_
 refine zhF (fun _=>zYx _ _ _ ok6 (Enc.mono (x:=s3) Lh3 ok3)) ?_
 refine Wk ?_
 refine zc9 rfl (fun c3=>?_) (fun c3=>?_)
 ·simp only [jQ] at c3
  rcases c3 with c3|c3
  ·(rw [Bool.not_eq_true'] at c3;exact (of_decide_eq_false c3 (by simp only [e3,e4,e5,e6])).elim)
  ·(exact absurd (by simp only [e3,e4,e5,e6]) (zjD c3))
 refine Wk ?_
 refine ziV rfl ?_
 refine zi3 [0,1] rfl (by kernel_rfl) ?_
 refine Evs ?_
 refine ziT [2] (by kernel_rfl) (by kernel_rfl) ?_
 refine Evs ?_
 refine zkj (zYe _ _ (Enc.mono (x:=a0) Lh oa0) hb0) rfl ?_
 rintro v h7 le7 ⟨s7,rfl,e7,ok7,m7⟩
 replace ow4:=zPF (x:=s4) le7 ok4 ow4
 replace ok4:=Enc.mono (x:=s4) le7 ok4
 replace ow5:=zPF (x:=s5) le7 ok5 ow5
 replace ok5:=Enc.mono (x:=s5) le7 ok5
 replace ow6:=zPF (x:=s6) le7 ok6 ow6
 replace ok6:=Enc.mono (x:=s6) le7 ok6
 replace Lh:=Hp.le_trans Lh le7
 replace Lh3:=Hp.le_trans Lh3 le7
 refine Evs ?_
 refine ziT [3] (by kernel_rfl) (by kernel_rfl) ?_
 refine Evs ?_
 refine zhF (fun _=>zYA _ _ _ ok4 ok7) ?_
 refine Evs ?_
 refine zi3 [4] rfl (by kernel_rfl) ?_
 refine Evs ?_
 refine ziU (by kernel_rfl) ?_
 refine Wk ?_
 refine zc9 rfl (fun c4=>?_) (fun c4=>?_)
 ·(rw [Bool.not_eq_true'] at c4;exact (of_decide_eq_false c4 (by simp only [e3,e4,e5,e6,e7])).elim)
 refine Wk ?_
 refine zkj (zXX _ _ (Enc.mono (x:=a2) Lh oa2) hb2) rfl ?_
 rintro v h8 le8 ⟨s8,rfl,e8,ok8,m8⟩
 replace ow4:=zPF (x:=s4) le8 ok4 ow4
 replace ok4:=Enc.mono (x:=s4) le8 ok4
 replace ow5:=zPF (x:=s5) le8 ok5 ow5
 replace ok5:=Enc.mono (x:=s5) le8 ok5
 replace ow6:=zPF (x:=s6) le8 ok6 ow6
 replace ok6:=Enc.mono (x:=s6) le8 ok6
 replace ok7:=Enc.mono (x:=s7) le8 ok7
 replace Lh:=Hp.le_trans Lh le8
 replace Lh3:=Hp.le_trans Lh3 le8
 refine Wk ?_
 refine zhF (fun _=>zYg _ _ _ ok5 ok8) ?_
 refine Wk ?_
 refine zc9 rfl (fun c5=>?_) (fun c5=>?_)
 ·(rw [Bool.not_eq_true'] at c5;exact (of_decide_eq_false c5 (by simp only [e3,e4,e5,e6,e7,e8])).elim)
 refine zc5 ?_
 refine Evs ?_
 refine zie rfl ?_
 refine Evs ?_
 refine zlr [0,0,1] rfl ?_
 refine Evs ?_
 have cn9:zPB s4≤6 * 1048576:=zPY rfl (zPE e4 hb0)
 refine zli (x:=⟨jV,W0,h,_⟩) (zYV s4 (1:Int) _ ok4 ow4 m4.2.2 (by omega)) rfl (fun b hb=>⟨Foot.dom (x:=s4) ow4 b hb,.inl (n4_h b hb)⟩) ?_
 rintro v h9 kp9 ⟨rfl,ok9,ow9⟩
 replace ow5:=(ok_keep (x:=s5) ok5 ow5 d5_4 kp9)
 have ok5':=ow5.1
 clear ok5
 have ok5:=ok5'
 clear ok5'
 replace ow5:=ow5.2
 replace ow6:=(ok_keep (x:=s6) ok6 ow6 d6_4 kp9)
 have ok6':=ow6.1
 clear ok6
 have ok6:=ok6'
 clear ok6'
 replace ow6:=ow6.2
 replace Lh:=zPG Lh n4_h kp9
 replace Lh3:=zPG Lh3 n4_h3 kp9
 refine Evs ?_
 refine zlr [0,0,1] rfl ?_
 refine Evs ?_
 have cn10:Mk.cnt s5≤6 * 1048576:=zPH rfl (zPE e5 hb2)
 refine zli (x:=⟨jV,W0,h,_⟩) (zYI s5 ((1:Int)+(zPB s4:Nat)) _ ok5 ow5 m5.2.2 (by omega)) rfl (fun b hb=>⟨Foot.dom (x:=s5) ow5 b hb,.inl (n5_h b hb)⟩) ?_
 rintro v h10 kp10 ⟨rfl,ok10,ow10⟩
 replace ow9:=(ok_keep (x:=(zPA s4 (1:Int))) ok9 ow9 (fun b hb hu=>d5_4 b hu (by first|exact hb|(rw [MkOk.foot] at hb;exact hb)|(rw [zPW] at hb;exact hb))) kp10)
 have ok9':=ow9.1
 clear ok9
 have ok9:=ok9'
 clear ok9'
 replace ow9:=ow9.2
 replace ow6:=(ok_keep (x:=s6) ok6 ow6 d6_5 kp10)
 have ok6':=ow6.1
 clear ok6
 have ok6:=ok6'
 clear ok6'
 replace ow6:=ow6.2
 replace Lh:=zPG Lh n5_h kp10
 replace Lh3:=zPG Lh3 n5_h3 kp10
 refine Evs ?_
 refine Wk ?_
 refine zhF (fun _=>zYx _ _ _ ok6 (Enc.mono (x:=s3) Lh3 ok3)) ?_
 refine Wk ?_
 refine zc9 rfl (fun c6=>?_) (fun c6=>?_)
 ·simp only [jQ] at c6
  rcases c6 with (c6|c6)|c6
  ·(exact absurd (of_decide_eq_true c6) (by omega))
  ·(rw [Bool.not_eq_true'] at c6;exact (of_decide_eq_false c6 (by simp only [e3,e4,e5,e6,e7,e8])).elim)
  ·(exact absurd (by simp only [e3,e4,e5,e6,e7,e8]) (zjD c6))
 refine zc5 ?_
 refine Evs ?_
 refine zie rfl ?_
 refine Evs ?_
 refine zlr [0,0,1] rfl ?_
 refine Evs ?_
 have cn11:zPr s6≤6 * 1048576:=zPN e6 (z0h _ _ _ _)
 refine zli (x:=⟨jV,W0,h,_⟩) (zYS s6 (1:Int) _ ok6 ow6 m6.2.2 (by omega)) rfl (fun b hb=>⟨Foot.dom (x:=s6) ow6 b hb,.inl (n6_h b hb)⟩) ?_
 rintro v h11 kp11 ⟨rfl,ok11,ow11⟩
 replace ow9:=(ok_keep (x:=(zPA s4 (1:Int))) ok9 ow9 (fun b hb hu=>d6_4 b hu (by first|exact hb|(rw [MkOk.foot] at hb;exact hb)|(rw [zPW] at hb;exact hb))) kp11)
 have ok9':=ow9.1
 clear ok9
 have ok9:=ok9'
 clear ok9'
 replace ow9:=ow9.2
 replace ow10:=(ok_keep (x:=(Mk.put s5 ((1:Int)+(zPB s4:Nat)))) ok10 ow10 (fun b hb hu=>d6_5 b hu (by first|exact hb|(rw [MkOk.foot] at hb;exact hb))) kp11)
 have ok10':=ow10.1
 clear ok10
 have ok10:=ok10'
 clear ok10'
 replace ow10:=ow10.2
 replace Lh:=zPG Lh n6_h kp11
 replace Lh3:=zPG Lh3 n6_h3 kp11
 refine Evs ?_
 refine Wk ?_
 have hh1:=zYY (zPq s6 (1:Int)) 1 h11 ok11 (zPL s6 1) (by have h0:=cn11;have h1:=zPK s6 (1:Int);(try rw [h1]);omega)
 rw [show (zPq s6 (1:Int)).v=(s6).v from by simp only [zPq,DOption.v,zPI]] at hh1
 refine zhF (fun _=>hh1) ?_
 refine Wk ?_
 refine zc9 rfl (fun c7=>?_) (fun c7=>?_)
 ·(exact absurd (of_decide_eq_true c7) (by omega))
 refine Wk ?_
 refine zc9 rfl (fun c8=>?_) (fun c8=>?_)
 ·(exact absurd (by first|rfl|rw [MkOk.cnt]|(simp only [MkOk.cnt])|(simp only [zPK])) (zjD c8))
 refine Wk ?_
 refine zod (ι:=Hp × DOption × Bool) (fun j=>⟨[(10,true,.c (.p 2 0)),(11,true,.c (.v (.bool (zyR (Con.con a0) (Con.con a1) (Con.con a2) a3).2))),(14,true,.c (.p 4 0)),(17,true,.c (.v (.int .i64 ((1:Int)+(zPr s6:Nat))))),(19,true,.c (.p 5 0)),(20,true,.c (.v (.bool j.2.2)))],[(0,.box 39 [.v (.int .i64 a0.forecast.tide.mean),.v (a0.forecast.tide.parts.val),.v (a0.forecast.surges.val),.v (a0.chart.points.val),.v (a0.chart.segments.val),.v (a0.fleet.val),.v (.int .i64 a0.regime.gap),.v (.bool a0.regime.noMeet),.v (.int .i64 a0.crew.tugs),.v (.int .i64 a0.crew.pilots),.v (.int .i64 a0.crew.rest),.v (a0.crew.moves.val)]),(1,.box 77 [.v (.int .i64 a1.ship),.v (.int .i64 a1.src),.v (.int .i64 a1.dst),.v (.int .i64 a1.ready),.v (.int .i64 a1.due)]),(2,.box 84 [.v (.int .i64 s3.start),.v (.int .i64 s3.arr),.v (.int .i64 s3.cost),.v (s3.pas.val)]),(3,.box 62 [.v (.int .i64 s4.forecast.tide.mean),.v (s4.forecast.tide.parts.val),.v (s4.forecast.surges.val),.v (s4.chart.points.val),.v (s4.chart.segments.val),.v (s4.fleet.val),.v (.int .i64 s4.regime.gap),.v (.bool s4.regime.noMeet),.v (.int .i64 s4.crew.tugs),.v (.int .i64 s4.crew.pilots),.v (.int .i64 s4.crew.rest),.v (s4.crew.moves.val)]),(4,.box 84 [.v (.int .i64 s6.start),.v (.int .i64 s6.arr),.v (.int .i64 s6.cost),.v (s6.pas.val)]),(5,.box 84 [.v (.int .i64 j.2.1.start),.v (.int .i64 j.2.1.arr),.v (.int .i64 j.2.1.cost),.v (j.2.1.pas.val)])],j.1,6⟩) (fun j=>h11.le j.1∧Con.con j.2.1=(zyR (Con.con a0) (Con.con a1) (Con.con a2) a3).1∧Enc.ok j.1 j.2.1∧j.2.2=(zyR (Con.con a0) (Con.con a1) (Con.con a2) a3).2∧Mine h11 j.1 j.2.1) (fun _=>rfl) ?_ ?_
 ·refine znv rfl ?_
  refine U_t [0,2,4,6] rfl ?_
  refine Evs ?_
  refine U_m 1 [11] ⟨?_,?_,trivial⟩
  ·refine U_b 1 0 [2] rfl rfl ?_
   refine Evs ?_
   refine zkj (zYe _ _ (Enc.mono (x:=a0) Lh oa0) hb0) rfl ?_
   rintro v h12 le12 ⟨s12,rfl,e12,ok12,m12⟩
   replace ow9:=zPF (x:=(zPA s4 (1:Int))) le12 ok9 ow9
   replace ok9:=Enc.mono (x:=(zPA s4 (1:Int))) le12 ok9
   replace ow10:=zPF (x:=(Mk.put s5 ((1:Int)+(zPB s4:Nat)))) le12 ok10 ow10
   replace ok10:=Enc.mono (x:=(Mk.put s5 ((1:Int)+(zPB s4:Nat)))) le12 ok10
   replace ow11:=zPF (x:=(zPq s6 (1:Int))) le12 ok11 ow11
   replace ok11:=Enc.mono (x:=(zPq s6 (1:Int))) le12 ok11
   replace Lh:=Hp.le_trans Lh le12
   replace Lh3:=Hp.le_trans Lh3 le12
   refine Evs ?_
   refine U_m 3 [11] ⟨?_,?_,trivial⟩
   ·refine U_b 3 0 [] rfl rfl ?_
    refine Evs ?_
    refine zhF (fun _=>zXW _ _) ?_
    refine Evs ?_
    refine U_m 5 [11] ⟨?_,?_,trivial⟩
    ·refine U_b 5 0 [] rfl rfl ?_
     refine Evs ?_
     refine zkj (zXX _ _ (Enc.mono (x:=a2) Lh oa2) hb2) rfl ?_
     rintro v h13 le13 ⟨s13,rfl,e13,ok13,m13⟩
     replace ow9:=zPF (x:=(zPA s4 (1:Int))) le13 ok9 ow9
     replace ok9:=Enc.mono (x:=(zPA s4 (1:Int))) le13 ok9
     replace ow10:=zPF (x:=(Mk.put s5 ((1:Int)+(zPB s4:Nat)))) le13 ok10 ow10
     replace ok10:=Enc.mono (x:=(Mk.put s5 ((1:Int)+(zPB s4:Nat)))) le13 ok10
     replace ow11:=zPF (x:=(zPq s6 (1:Int))) le13 ok11 ow11
     replace ok11:=Enc.mono (x:=(zPq s6 (1:Int))) le13 ok11
     replace ok12:=Enc.mono (x:=s12) le13 ok12
     replace Lh:=Hp.le_trans Lh le13
     replace Lh3:=Hp.le_trans Lh3 le13
     refine Evs ?_
     refine U_m 7 [11] ⟨?_,?_,trivial⟩
     ·refine U_b 7 0 [] rfl rfl ?_
      refine Evs ?_
      refine zkj (z0d _ _ _ _ _ ok12 (Enc.mono (x:=a1) Lh oa1) ok13 oa3 (zPE e13 hb2)) rfl ?_
      rintro v h14 le14 ⟨s14,rfl,e14,ok14,m14⟩
      replace ow9:=zPF (x:=(zPA s4 (1:Int))) le14 ok9 ow9
      replace ok9:=Enc.mono (x:=(zPA s4 (1:Int))) le14 ok9
      replace ow10:=zPF (x:=(Mk.put s5 ((1:Int)+(zPB s4:Nat)))) le14 ok10 ow10
      replace ok10:=Enc.mono (x:=(Mk.put s5 ((1:Int)+(zPB s4:Nat)))) le14 ok10
      replace ow11:=zPF (x:=(zPq s6 (1:Int))) le14 ok11 ow11
      replace ok11:=Enc.mono (x:=(zPq s6 (1:Int))) le14 ok11
      replace ok12:=Enc.mono (x:=s12) le14 ok12
      replace ok13:=Enc.mono (x:=s13) le14 ok13
      replace Lh:=Hp.le_trans Lh le14
      replace Lh3:=Hp.le_trans Lh3 le14
      refine Evs ?_
      refine U_t [8,9,10] rfl ?_
      refine Evs ?_
      refine U_1 11 0 [10,9] rfl rfl ?_
      refine Evs ?_
      refine U_1 12 0 [10] rfl rfl ?_
      refine Evs ?_
      refine U_t [13] rfl ?_
      refine Evs ?_
      refine U_d ?_
      refine ⟨(h14,s14,(zyR (Con.con s12) (Con.con a1) (Con.con s13) a3).2),[0,1,2,3,4,5],⟨(Hp.le_trans le12 (Hp.le_trans le13 le14)),by rw [e14,e12,e13],ok14,by simp only [e12,e13],m14.back (Hp.le_trans le12 le13)⟩,?_⟩
      refine Evs ?_
      exact Gk
     ·refine U_b 11 0 [] rfl rfl ?_
      refine Evs ?_
      refine U_1 7 0 [] rfl rfl ?_
      refine Evs ?_
      refine zkj (z0d _ _ _ _ _ ok12 (Enc.mono (x:=a1) Lh oa1) ok13 oa3 (zPE e13 hb2)) rfl ?_
      rintro v h14 le14 ⟨s14,rfl,e14,ok14,m14⟩
      replace ow9:=zPF (x:=(zPA s4 (1:Int))) le14 ok9 ow9
      replace ok9:=Enc.mono (x:=(zPA s4 (1:Int))) le14 ok9
      replace ow10:=zPF (x:=(Mk.put s5 ((1:Int)+(zPB s4:Nat)))) le14 ok10 ow10
      replace ok10:=Enc.mono (x:=(Mk.put s5 ((1:Int)+(zPB s4:Nat)))) le14 ok10
      replace ow11:=zPF (x:=(zPq s6 (1:Int))) le14 ok11 ow11
      replace ok11:=Enc.mono (x:=(zPq s6 (1:Int))) le14 ok11
      replace ok12:=Enc.mono (x:=s12) le14 ok12
      replace ok13:=Enc.mono (x:=s13) le14 ok13
      replace Lh:=Hp.le_trans Lh le14
      replace Lh3:=Hp.le_trans Lh3 le14
      refine Evs ?_
      refine U_t [8,9,10] rfl ?_
      refine Evs ?_
      refine U_1 12 0 [10] rfl rfl ?_
      refine Evs ?_
      refine U_t [13] rfl ?_
      refine Evs ?_
      refine U_d ?_
      refine ⟨(h14,s14,(zyR (Con.con s12) (Con.con a1) (Con.con s13) a3).2),[0,1,2,3,4,5],⟨(Hp.le_trans le12 (Hp.le_trans le13 le14)),by rw [e14,e12,e13],ok14,by simp only [e12,e13],m14.back (Hp.le_trans le12 le13)⟩,?_⟩
      refine Evs ?_
      exact Gk
    ·refine U_b 11 0 [] rfl rfl ?_
     refine Evs ?_
     refine U_1 5 0 [] rfl rfl ?_
     refine Evs ?_
     refine zkj (zXX _ _ (Enc.mono (x:=a2) Lh oa2) hb2) rfl ?_
     rintro v h13 le13 ⟨s13,rfl,e13,ok13,m13⟩
     replace ow9:=zPF (x:=(zPA s4 (1:Int))) le13 ok9 ow9
     replace ok9:=Enc.mono (x:=(zPA s4 (1:Int))) le13 ok9
     replace ow10:=zPF (x:=(Mk.put s5 ((1:Int)+(zPB s4:Nat)))) le13 ok10 ow10
     replace ok10:=Enc.mono (x:=(Mk.put s5 ((1:Int)+(zPB s4:Nat)))) le13 ok10
     replace ow11:=zPF (x:=(zPq s6 (1:Int))) le13 ok11 ow11
     replace ok11:=Enc.mono (x:=(zPq s6 (1:Int))) le13 ok11
     replace ok12:=Enc.mono (x:=s12) le13 ok12
     replace Lh:=Hp.le_trans Lh le13
     replace Lh3:=Hp.le_trans Lh3 le13
     refine Evs ?_
     refine U_1 7 0 [] rfl rfl ?_
     refine Evs ?_
     refine zkj (z0d _ _ _ _ _ ok12 (Enc.mono (x:=a1) Lh oa1) ok13 oa3 (zPE e13 hb2)) rfl ?_
     rintro v h14 le14 ⟨s14,rfl,e14,ok14,m14⟩
     replace ow9:=zPF (x:=(zPA s4 (1:Int))) le14 ok9 ow9
     replace ok9:=Enc.mono (x:=(zPA s4 (1:Int))) le14 ok9
     replace ow10:=zPF (x:=(Mk.put s5 ((1:Int)+(zPB s4:Nat)))) le14 ok10 ow10
     replace ok10:=Enc.mono (x:=(Mk.put s5 ((1:Int)+(zPB s4:Nat)))) le14 ok10
     replace ow11:=zPF (x:=(zPq s6 (1:Int))) le14 ok11 ow11
     replace ok11:=Enc.mono (x:=(zPq s6 (1:Int))) le14 ok11
     replace ok12:=Enc.mono (x:=s12) le14 ok12
     replace ok13:=Enc.mono (x:=s13) le14 ok13
     replace Lh:=Hp.le_trans Lh le14
     replace Lh3:=Hp.le_trans Lh3 le14
     refine Evs ?_
     refine U_t [8,9,10] rfl ?_
     refine Evs ?_
     refine U_1 12 0 [10] rfl rfl ?_
     refine Evs ?_
     refine U_t [13] rfl ?_
     refine Evs ?_
     refine U_d ?_
     refine ⟨(h14,s14,(zyR (Con.con s12) (Con.con a1) (Con.con s13) a3).2),[0,1,2,3,4,5],⟨(Hp.le_trans le12 (Hp.le_trans le13 le14)),by rw [e14,e12,e13],ok14,by simp only [e12,e13],m14.back (Hp.le_trans le12 le13)⟩,?_⟩
     refine Evs ?_
     exact Gk
   ·refine U_b 11 0 [2] rfl rfl ?_
    refine Evs ?_
    refine U_1 3 0 [] rfl rfl ?_
    refine Evs ?_
    refine zhF (fun _=>zXW _ _) ?_
    refine Evs ?_
    refine U_1 5 0 [] rfl rfl ?_
    refine Evs ?_
    refine zkj (zXX _ _ (Enc.mono (x:=a2) Lh oa2) hb2) rfl ?_
    rintro v h13 le13 ⟨s13,rfl,e13,ok13,m13⟩
    replace ow9:=zPF (x:=(zPA s4 (1:Int))) le13 ok9 ow9
    replace ok9:=Enc.mono (x:=(zPA s4 (1:Int))) le13 ok9
    replace ow10:=zPF (x:=(Mk.put s5 ((1:Int)+(zPB s4:Nat)))) le13 ok10 ow10
    replace ok10:=Enc.mono (x:=(Mk.put s5 ((1:Int)+(zPB s4:Nat)))) le13 ok10
    replace ow11:=zPF (x:=(zPq s6 (1:Int))) le13 ok11 ow11
    replace ok11:=Enc.mono (x:=(zPq s6 (1:Int))) le13 ok11
    replace ok12:=Enc.mono (x:=s12) le13 ok12
    replace Lh:=Hp.le_trans Lh le13
    replace Lh3:=Hp.le_trans Lh3 le13
    refine Evs ?_
    refine U_1 7 0 [] rfl rfl ?_
    refine Evs ?_
    refine zkj (z0d _ _ _ _ _ ok12 (Enc.mono (x:=a1) Lh oa1) ok13 oa3 (zPE e13 hb2)) rfl ?_
    rintro v h14 le14 ⟨s14,rfl,e14,ok14,m14⟩
    replace ow9:=zPF (x:=(zPA s4 (1:Int))) le14 ok9 ow9
    replace ok9:=Enc.mono (x:=(zPA s4 (1:Int))) le14 ok9
    replace ow10:=zPF (x:=(Mk.put s5 ((1:Int)+(zPB s4:Nat)))) le14 ok10 ow10
    replace ok10:=Enc.mono (x:=(Mk.put s5 ((1:Int)+(zPB s4:Nat)))) le14 ok10
    replace ow11:=zPF (x:=(zPq s6 (1:Int))) le14 ok11 ow11
    replace ok11:=Enc.mono (x:=(zPq s6 (1:Int))) le14 ok11
    replace ok12:=Enc.mono (x:=s12) le14 ok12
    replace ok13:=Enc.mono (x:=s13) le14 ok13
    replace Lh:=Hp.le_trans Lh le14
    replace Lh3:=Hp.le_trans Lh3 le14
    refine Evs ?_
    refine U_t [8,9,10] rfl ?_
    refine Evs ?_
    refine U_1 12 0 [10] rfl rfl ?_
    refine Evs ?_
    refine U_t [13] rfl ?_
    refine Evs ?_
    refine U_d ?_
    refine ⟨(h14,s14,(zyR (Con.con s12) (Con.con a1) (Con.con s13) a3).2),[0,1,2,3,4,5],⟨(Hp.le_trans le12 (Hp.le_trans le13 le14)),by rw [e14,e12,e13],ok14,by simp only [e12,e13],m14.back (Hp.le_trans le12 le13)⟩,?_⟩
    refine Evs ?_
    exact Gk
  ·refine U_b 11 0 [2,0] rfl rfl ?_
   refine Evs ?_
   refine U_1 1 0 [2] rfl rfl ?_
   refine Evs ?_
   refine zkj (zYe _ _ (Enc.mono (x:=a0) Lh oa0) hb0) rfl ?_
   rintro v h12 le12 ⟨s12,rfl,e12,ok12,m12⟩
   replace ow9:=zPF (x:=(zPA s4 (1:Int))) le12 ok9 ow9
   replace ok9:=Enc.mono (x:=(zPA s4 (1:Int))) le12 ok9
   replace ow10:=zPF (x:=(Mk.put s5 ((1:Int)+(zPB s4:Nat)))) le12 ok10 ow10
   replace ok10:=Enc.mono (x:=(Mk.put s5 ((1:Int)+(zPB s4:Nat)))) le12 ok10
   replace ow11:=zPF (x:=(zPq s6 (1:Int))) le12 ok11 ow11
   replace ok11:=Enc.mono (x:=(zPq s6 (1:Int))) le12 ok11
   replace Lh:=Hp.le_trans Lh le12
   replace Lh3:=Hp.le_trans Lh3 le12
   refine Evs ?_
   refine U_1 3 0 [] rfl rfl ?_
   refine Evs ?_
   refine zhF (fun _=>zXW _ _) ?_
   refine Evs ?_
   refine U_1 5 0 [] rfl rfl ?_
   refine Evs ?_
   refine zkj (zXX _ _ (Enc.mono (x:=a2) Lh oa2) hb2) rfl ?_
   rintro v h13 le13 ⟨s13,rfl,e13,ok13,m13⟩
   replace ow9:=zPF (x:=(zPA s4 (1:Int))) le13 ok9 ow9
   replace ok9:=Enc.mono (x:=(zPA s4 (1:Int))) le13 ok9
   replace ow10:=zPF (x:=(Mk.put s5 ((1:Int)+(zPB s4:Nat)))) le13 ok10 ow10
   replace ok10:=Enc.mono (x:=(Mk.put s5 ((1:Int)+(zPB s4:Nat)))) le13 ok10
   replace ow11:=zPF (x:=(zPq s6 (1:Int))) le13 ok11 ow11
   replace ok11:=Enc.mono (x:=(zPq s6 (1:Int))) le13 ok11
   replace ok12:=Enc.mono (x:=s12) le13 ok12
   replace Lh:=Hp.le_trans Lh le13
   replace Lh3:=Hp.le_trans Lh3 le13
   refine Evs ?_
   refine U_1 7 0 [] rfl rfl ?_
   refine Evs ?_
   refine zkj (z0d _ _ _ _ _ ok12 (Enc.mono (x:=a1) Lh oa1) ok13 oa3 (zPE e13 hb2)) rfl ?_
   rintro v h14 le14 ⟨s14,rfl,e14,ok14,m14⟩
   replace ow9:=zPF (x:=(zPA s4 (1:Int))) le14 ok9 ow9
   replace ok9:=Enc.mono (x:=(zPA s4 (1:Int))) le14 ok9
   replace ow10:=zPF (x:=(Mk.put s5 ((1:Int)+(zPB s4:Nat)))) le14 ok10 ow10
   replace ok10:=Enc.mono (x:=(Mk.put s5 ((1:Int)+(zPB s4:Nat)))) le14 ok10
   replace ow11:=zPF (x:=(zPq s6 (1:Int))) le14 ok11 ow11
   replace ok11:=Enc.mono (x:=(zPq s6 (1:Int))) le14 ok11
   replace ok12:=Enc.mono (x:=s12) le14 ok12
   replace ok13:=Enc.mono (x:=s13) le14 ok13
   replace Lh:=Hp.le_trans Lh le14
   replace Lh3:=Hp.le_trans Lh3 le14
   refine Evs ?_
   refine U_t [8,9,10] rfl ?_
   refine Evs ?_
   refine U_1 12 0 [10] rfl rfl ?_
   refine Evs ?_
   refine U_t [13] rfl ?_
   refine Evs ?_
   refine U_d ?_
   refine ⟨(h14,s14,(zyR (Con.con s12) (Con.con a1) (Con.con s13) a3).2),[0,1,2,3,4,5],⟨(Hp.le_trans le12 (Hp.le_trans le13 le14)),by rw [e14,e12,e13],ok14,by simp only [e12,e13],m14.back (Hp.le_trans le12 le13)⟩,?_⟩
   refine Evs ?_
   exact Gk
 rintro ⟨h14,s14,b14⟩ ⟨le14,e14,ok14,hb14',m14⟩
 simp only at le14 e14 ok14 hb14' m14
 subst hb14'
 replace ow9:=zPF (x:=(zPA s4 (1:Int))) le14 ok9 ow9
 replace ok9:=Enc.mono (x:=(zPA s4 (1:Int))) le14 ok9
 replace ow10:=zPF (x:=(Mk.put s5 ((1:Int)+(zPB s4:Nat)))) le14 ok10 ow10
 replace ok10:=Enc.mono (x:=(Mk.put s5 ((1:Int)+(zPB s4:Nat)))) le14 ok10
 replace ow11:=zPF (x:=(zPq s6 (1:Int))) le14 ok11 ow11
 replace ok11:=Enc.mono (x:=(zPq s6 (1:Int))) le14 ok11
 replace Lh:=Hp.le_trans Lh le14
 replace Lh3:=Hp.le_trans Lh3 le14
 refine Wk ?_
 refine zhF (fun _=>zYx _ _ _ ok14 (Enc.mono (x:=s3) Lh3 ok3)) ?_
 refine Wk ?_
 refine zc9 rfl (fun c9=>?_) (fun c9=>?_)
 ·simp only [jQ] at c9
  rcases c9 with c9|c9
  ·(rw [Bool.not_eq_true'] at c9;exact (of_decide_eq_false c9 (by simp only [e3,e4,e5,e6,e7,e8,e14])).elim)
  ·(exact absurd (by simp only [e3,e4,e5,e6,e7,e8,e14]) (zjD c9))
 refine Wk ?_
 have hh2:=zYY (zPq s6 (1:Int)) 1 h14 ok11 (zPL s6 1) (by have h0:=cn11;have h1:=zPK s6 (1:Int);(try rw [h1]);omega)
 rw [show (zPq s6 (1:Int)).v=(s6).v from by simp only [zPq,DOption.v,zPI]] at hh2
 refine zhF (fun _=>hh2) ?_
 refine Wk ?_
 refine zc9 rfl (fun c10=>?_) (fun c10=>?_)
 ·(exact absurd (of_decide_eq_true c10) (by omega))
 refine Wk ?_
 refine zc9 rfl (fun c11=>?_) (fun c11=>?_)
 ·(exact absurd (by first|rfl|rw [MkOk.cnt]|(simp only [MkOk.cnt])|(simp only [zPK])) (zjD c11))
 exact Wk0
set_option maxRecDepth 100000 in
theorem z1z (os:Os) (started:os.Started) (H:Type) (enc:TypeId × Value→H) :
  ReturnsInHanded {} Tryz.checked os 5 .any (Rows.fnExactOptionAtSpec.pre6 enc jV Tryz.f5 Rows.fnExactOptionAtRow.domain false) (Rows.fnExactOptionAtSpec.post enc jV Tryz.f5 false true false false):=by
 refine returnsInHanded_of_change (C:=Tryz.checked) Tryz.own started (by kernel_rfl) Tryz.func5
  (ChangeSpec.witness6 (enc:=enc) (C:=Tryz.checked) false ⟨#[],#[.agg #[.int .i64 0,.slice none 0 0,.slice none 0 0,.slice none 0 0,.slice none 0 0,.slice none 0 0,.int .i64 0,.bool false,.int .i64 0,.int .i64 0,.int .i64 0,.slice none 0 0],.agg #[.int .i64 0,.int .i64 0,.int .i64 0,.int .i64 0,.int .i64 0],.slice none 0 0,.int .i64 0],[]⟩ 8 (by kernel_rfl) (by kernel_rfl) (by kernel_rfl) (by kernel_rfl)) ?_
 intro W base args ds gs before hval0 hW hcnd _
 have hval:∀ (j:Nat) t v,Tryz.f5.params[j]?=some t→args[j]?=some v→Value.okWide jV W .any base t v:=hval0
 have hW':=hW
 obtain ⟨p,q,hA0,hV,rfl,hfz,hnd⟩:=hW
 have hA:DataW.TrodAll enc jV W 0 (fun _=>true) true Tryz.f5.params.toList args.toList ds p:=hA0
 rw [Tryz.params5] at hA hval
 obtain ⟨args⟩:=args
 obtain ⟨rfl,rfl⟩:=trodVars_none hV
 have hA9:=hA
 obtain ⟨v0,vs0,d0,ds0,p0,q0,ev0,rfl,rfl,k0,r0⟩:=trodAll_cons hA
 obtain ⟨v1,vs1,d1,ds1,p1,q1,ev1,rfl,rfl,k1,r1⟩:=trodAll_cons r0
 obtain ⟨v2,vs2,d2,ds2,p2,q2,ev2,rfl,rfl,k2,r2⟩:=trodAll_cons r1
 obtain ⟨v3,vs3,d3,ds3,p3,q3,ev3,rfl,rfl,k3,r3⟩:=trodAll_cons r2
 obtain ⟨ev4,rfl,rfl⟩:=trodAll_nil r3
 simp only at ev0 ev1 ev2 ev3 ev4
 subst ev4
 subst ev3
 subst ev2
 subst ev1
 subst ev0
 obtain ⟨a0,rfl,oa0⟩:=zOY Tryz.underlying39 z1w (hval 0 _ v0 rfl rfl) k0
 obtain ⟨a1,rfl,oa1⟩:=zOY Tryz.underlying77 z1e (hval 1 _ v1 rfl rfl) k1
 obtain ⟨a2,rfl,oa2⟩:=zlf Tryz.underlying35 opens_IntS (hval 2 _ v2 rfl rfl) k2
 obtain ⟨a3,rfl,oa3⟩:=zOZ Tryz.underlying3 (hval 3 _ v3 rfl rfl) k3
 simp only [List.append_nil] at hW' hA9
 have hct:=FnExactOptionAt_fn a0 a1 a2 a3 (vw W) oa0 oa1 oa2 oa3
 unfold Ct at hct
 refine (hct.2 W (zkk W)).mono fun e W' ⟨v,h',he,hv,hb,_⟩=>?_
 subst he hv
 have hlt:∀ x ∈ (p0 ++ (p1 ++ (p2 ++ (p3)))),x.block < W.heap.size:=fun x hx=>hW'.lt x hx
 exact ⟨_,rfl,zko hW' hb (fun _=>rfl) (fun _ _ _=>trodAll_mk1 (shut_bool Tryz.underlying4 true))
  (fun sp hsp=>zlg Tryz.laidOut hb (by kernel_rfl) hlt hsp hA9)⟩
set_option maxRecDepth 100000 in
set_option maxHeartbeats 200000000 in
theorem z1A:joinedFacts Tryz.pinned.checked.prog 5 Tryz.f5 Rows.fnExactOptionAtSpec Rows.fnExactOptionAtRow=true:=by
 unfold joinedFacts
 repeat' (rw [jJ];constructor)
 all_goals (as_aux_lemma=>kernel_rfl)
set_option maxRecDepth 100000 in
theorem FnExactOptionAt_holds:Rows.FnExactOptionAtSaid :=
 OpenClaim.holds_of_wide 5 Tryz.f5 rfl rfl rfl rfl rfl rfl rfl ⟨rfl,rfl,rfl,rfl,rfl⟩ rfl rfl rfl rfl rfl (by as_aux_lemma=>kernel_rfl) Tryz.func5 z1A
  (of_decide_eq_true (by as_aux_lemma=>kernel_rfl)) (by unfold Func.isWrapper;rw [if_neg (of_decide_eq_false (by as_aux_lemma=>kernel_rfl))];exact ⟨rfl,rfl⟩)
  (fun os started H enc _=>z1z os started H enc)
end Go.Proofs.YtbkaaakphpbmiaaGreat
