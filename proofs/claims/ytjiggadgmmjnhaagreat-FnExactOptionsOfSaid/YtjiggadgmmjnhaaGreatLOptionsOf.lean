/- The walk of a law of the given program, and the law itself as it is stated: it holds of every input. No condition. -/
import Derived.Test.YtjiggadgmmjnhaaGreatRows
import Derived.Test.YtjiggadgmmjnhaaGreatXGFloorOf19
set_option linter.unusedVariables false
set_option linter.unusedSimpArgs false
open Nat renaming reduceAdd → yqa, reduceMul → yqb, reduceBEq → yqc, reduceLeDiff → yqd, reduceLT → yqe, reduceEqDiff → yqf
open Bool renaming or_eq_false_iff → yqg, or_eq_true → yqh, and_eq_true → yqi
open Int renaming toNat_natCast → yqj, natCast_nonneg → yqk
namespace Go.Proofs.YtjiggadgmmjnhaaGreat
open Go Go.SL Go.RowKit Go.ChangeShapes Go.WideShapes Go.ChangeAt
set_option maxHeartbeats 1000000
set_option maxRecDepth 100000 in
theorem FnExactOptionsOf_fn (a0:DHarbour) (a1:DCall) (h:Hp) (oa0:Enc.ok h a0) (oa1:Enc.ok h a1):Ct Tryz.prog 8 [.agg #[.int .i64 a0.forecast.tide.mean,a0.forecast.tide.parts.val,a0.forecast.surges.val,a0.chart.points.val,a0.chart.segments.val,a0.fleet.val,.int .i64 a0.regime.gap,.bool a0.regime.noMeet,.int .i64 a0.crew.tugs,.int .i64 a0.crew.pilots,.int .i64 a0.crew.rest,a0.crew.moves.val],.agg #[.int .i64 a1.ship,.int .i64 a1.src,.int .i64 a1.dst,.int .i64 a1.ready,.int .i64 a1.due]] h fun v h'=>v=.bool true:=by
 refine zdn (fun A W=>by simp) Tryz.func8 rfl rfl (by simp) fun W0=>?_
 repeat' first|refine zie rfl ?_|refine zc4 rfl ?_|refine zc7 ?_|refine zc8 ?_|refine zc5 ?_|refine zc6 ?_|(simp (maxSteps:=2000000) only [go_sem,yqa,yqb,yqc,yqd,yqe,yqf];try rfl)|refine zc3 ?_|(refine And.intro ?_ ?_;focus (intros;simp_all only [yqg,yqh,yqi,and_self,true_and,and_true];done))
 refine zhF (fun _=>zHo _ _ _ oa0 (by omega)) ?_
 repeat' first|refine zie rfl ?_|refine zc4 rfl ?_|refine zc7 ?_|refine zc8 ?_|refine zc5 ?_|refine zc6 ?_|(simp (maxSteps:=2000000) only [go_sem,yqa,yqb,yqc,yqd,yqe,yqf];try rfl)|refine zc3 ?_|(refine And.intro ?_ ?_;focus (intros;simp_all only [yqg,yqh,yqi,and_self,true_and,and_true];done))
 refine zc9 rfl (fun c1=>?_) (fun c1=>?_)
 ·repeat' first|refine zie rfl ?_|refine zc4 rfl ?_|refine zc7 ?_|refine zc8 ?_|refine zc5 ?_|refine zc6 ?_|(simp (maxSteps:=2000000) only [go_sem,yqa,yqb,yqc,yqd,yqe,yqf];try rfl)|refine zc3 ?_|(refine And.intro ?_ ?_;focus (intros;simp_all only [yqg,yqh,yqi,and_self,true_and,and_true];done))
 have hp0:=zkG c1
 have hn0:=zkI (show (0:Int)≤1048576∧(1048576:Int)≤1048576 by omega) hp0
 have hb0:Blk.blk a0≤1048576:=by have h1:=zkJ hp0;have h2:=(show (0:Int)≤1048576∧(1048576:Int)≤1048576 by omega);omega
 repeat' first|refine zie rfl ?_|refine zc4 rfl ?_|refine zc7 ?_|refine zc8 ?_|refine zc5 ?_|refine zc6 ?_|(simp (maxSteps:=2000000) only [go_sem,yqa,yqb,yqc,yqd,yqe,yqf];try rfl)|refine zc3 ?_|(refine And.intro ?_ ?_;focus (intros;simp_all only [yqg,yqh,yqi,and_self,true_and,and_true];done))
 refine ziV rfl ?_
 refine zi3 [0,2] rfl (by kernel_rfl) ?_
 simp (maxSteps:=2000000) only [go_sem,yqa,yqb,yqc,yqd,yqe,yqf]
 refine ziT [1] (by kernel_rfl) (by kernel_rfl) ?_
 simp (maxSteps:=2000000) only [go_sem,yqa,yqb,yqc,yqd,yqe,yqf]
 refine zkr (zHy _ _ oa0 hb0) rfl ?_
 rintro v h1 le1 ⟨s1,rfl,e1,ok1,m1⟩
 have Lh:=le1
 simp (maxSteps:=2000000) only [go_sem,yqa,yqb,yqc,yqd,yqe,yqf]
 refine ziT [3] (by kernel_rfl) (by kernel_rfl) ?_
 simp (maxSteps:=2000000) only [go_sem,yqa,yqb,yqc,yqd,yqe,yqf]
 refine zhF (fun _=>zHp _ _) ?_
 simp (maxSteps:=2000000) only [go_sem,yqa,yqb,yqc,yqd,yqe,yqf]
 refine ziT [4] (by kernel_rfl) (by kernel_rfl) ?_
 simp (maxSteps:=2000000) only [go_sem,yqa,yqb,yqc,yqd,yqe,yqf]
 refine zkr (zMB _ _ _ ok1 (Enc.mono (x:=a1) Lh oa1)) rfl ?_
 rintro v h2 le2 ⟨s2,rfl,e2,ok2,m2⟩
 replace ok1:=Enc.mono (x:=s1) le2 ok1
 replace Lh:=Hp.le_trans Lh le2
 have okw:=ok2
 have Lh2:=Hp.le_refl h2
 simp (maxSteps:=2000000) only [go_sem,yqa,yqb,yqc,yqd,yqe,yqf]
 refine zi3 [5] rfl (by kernel_rfl) ?_
 simp (maxSteps:=2000000) only [go_sem,yqa,yqb,yqc,yqd,yqe,yqf]
 refine ziU (by kernel_rfl) ?_
 repeat' first|refine zie rfl ?_|refine zc4 rfl ?_|refine zc7 ?_|refine zc8 ?_|refine zc5 ?_|refine zc6 ?_|(simp (maxSteps:=2000000) only [go_sem,yqa,yqb,yqc,yqd,yqe,yqf];try rfl)|refine zc3 ?_|(refine And.intro ?_ ?_;focus (intros;simp_all only [yqg,yqh,yqi,and_self,true_and,and_true];done))
 refine zkr (zHy _ _ (Enc.mono (x:=a0) Lh oa0) hb0) rfl ?_
 rintro v h3 le3 ⟨s3,rfl,e3,ok3,m3⟩
 have n3_h:∀ b ∈ Foot.foot s3,h b=none:=fun b hb=>zmE Lh (m3.2.1 b hb)
 have n3_h2:∀ b ∈ Foot.foot s3,h2 b=none:=fun b hb=>zmE Lh2 (m3.2.1 b hb)
 replace ok1:=Enc.mono (x:=s1) le3 ok1
 replace Lh:=Hp.le_trans Lh le3
 replace Lh2:=Hp.le_trans Lh2 le3
 have ow3:=m3.1
 repeat' first|refine zie rfl ?_|refine zc4 rfl ?_|refine zc7 ?_|refine zc8 ?_|refine zc5 ?_|refine zc6 ?_|(simp (maxSteps:=2000000) only [go_sem,yqa,yqb,yqc,yqd,yqe,yqf];try rfl)|refine zc3 ?_|(refine And.intro ?_ ?_;focus (intros;simp_all only [yqg,yqh,yqi,and_self,true_and,and_true];done))
 refine ziV rfl ?_
 refine zi3 [0,1] rfl (by kernel_rfl) ?_
 simp (maxSteps:=2000000) only [go_sem,yqa,yqb,yqc,yqd,yqe,yqf]
 refine ziT [2] (by kernel_rfl) (by kernel_rfl) ?_
 simp (maxSteps:=2000000) only [go_sem,yqa,yqb,yqc,yqd,yqe,yqf]
 refine zhF (fun _=>zHp _ _) ?_
 simp (maxSteps:=2000000) only [go_sem,yqa,yqb,yqc,yqd,yqe,yqf]
 refine ziT [3] (by kernel_rfl) (by kernel_rfl) ?_
 simp (maxSteps:=2000000) only [go_sem,yqa,yqb,yqc,yqd,yqe,yqf]
 refine zkr (zMA _ _ _ ok3 (Enc.mono (x:=a1) Lh oa1)) rfl ?_
 rintro v h4 le4 ⟨s4,rfl,e4,ok4,m4⟩
 have d4_3:∀ b ∈ Foot.foot s4,¬ (b ∈ Foot.foot s3):=fun b hb hu=>Foot.dom (x:=s3) ow3 b hu (m4.2.1 b hb)
 have n4_h:∀ b ∈ Foot.foot s4,h b=none:=fun b hb=>zmE Lh (m4.2.1 b hb)
 have n4_h2:∀ b ∈ Foot.foot s4,h2 b=none:=fun b hb=>zmE Lh2 (m4.2.1 b hb)
 replace ow3:=zmF (x:=s3) le4 ok3 ow3
 replace ok3:=Enc.mono (x:=s3) le4 ok3
 replace ok1:=Enc.mono (x:=s1) le4 ok1
 replace Lh:=Hp.le_trans Lh le4
 replace Lh2:=Hp.le_trans Lh2 le4
 have ow4:=m4.1
 simp (maxSteps:=2000000) only [go_sem,yqa,yqb,yqc,yqd,yqe,yqf]
 refine zi3 [4] rfl (by kernel_rfl) ?_
 simp (maxSteps:=2000000) only [go_sem,yqa,yqb,yqc,yqd,yqe,yqf]
 refine ziU (by kernel_rfl) ?_
 repeat' first|refine zie rfl ?_|refine zc4 rfl ?_|refine zc7 ?_|refine zc8 ?_|refine zc5 ?_|refine zc6 ?_|(simp (maxSteps:=2000000) only [go_sem,yqa,yqb,yqc,yqd,yqe,yqf];try rfl)|refine zc3 ?_|(refine And.intro ?_ ?_;focus (intros;simp_all only [yqg,yqh,yqi,and_self,true_and,and_true];done))
 refine zhF (fun _=>zHH _ _ _ ok4 (Enc.mono (x:=s2) Lh2 ok2)) ?_
 repeat' first|refine zie rfl ?_|refine zc4 rfl ?_|refine zc7 ?_|refine zc8 ?_|refine zc5 ?_|refine zc6 ?_|(simp (maxSteps:=2000000) only [go_sem,yqa,yqb,yqc,yqd,yqe,yqf];try rfl)|refine zc3 ?_|(refine And.intro ?_ ?_;focus (intros;simp_all only [yqg,yqh,yqi,and_self,true_and,and_true];done))
 refine zc9 rfl (fun c2=>?_) (fun c2=>?_)
 ·(rw [Bool.not_eq_true'] at c2;exact (of_decide_eq_false c2 (by simp only [e1,e2,e3,e4])).elim)
 repeat' first|refine zie rfl ?_|refine zc4 rfl ?_|refine zc7 ?_|refine zc8 ?_|refine zc5 ?_|refine zc6 ?_|(simp (maxSteps:=2000000) only [go_sem,yqa,yqb,yqc,yqd,yqe,yqf];try rfl)|refine zc3 ?_|(refine And.intro ?_ ?_;focus (intros;simp_all only [yqg,yqh,yqi,and_self,true_and,and_true];done))
 refine ziV rfl ?_
 refine zi3 [0,1] rfl (by kernel_rfl) ?_
 simp (maxSteps:=2000000) only [go_sem,yqa,yqb,yqc,yqd,yqe,yqf]
 refine ziT [2] (by kernel_rfl) (by kernel_rfl) ?_
 simp (maxSteps:=2000000) only [go_sem,yqa,yqb,yqc,yqd,yqe,yqf]
 refine zkr (zHy _ _ (Enc.mono (x:=a0) Lh oa0) hb0) rfl ?_
 rintro v h5 le5 ⟨s5,rfl,e5,ok5,m5⟩
 replace ow3:=zmF (x:=s3) le5 ok3 ow3
 replace ok3:=Enc.mono (x:=s3) le5 ok3
 replace ow4:=zmF (x:=s4) le5 ok4 ow4
 replace ok4:=Enc.mono (x:=s4) le5 ok4
 replace ok1:=Enc.mono (x:=s1) le5 ok1
 replace Lh:=Hp.le_trans Lh le5
 replace Lh2:=Hp.le_trans Lh2 le5
 simp (maxSteps:=2000000) only [go_sem,yqa,yqb,yqc,yqd,yqe,yqf]
 refine ziT [3] (by kernel_rfl) (by kernel_rfl) ?_
 simp (maxSteps:=2000000) only [go_sem,yqa,yqb,yqc,yqd,yqe,yqf]
 refine zhF (fun _=>zHI _ _ _ ok3 ok5) ?_
 simp (maxSteps:=2000000) only [go_sem,yqa,yqb,yqc,yqd,yqe,yqf]
 refine zi3 [4] rfl (by kernel_rfl) ?_
 simp (maxSteps:=2000000) only [go_sem,yqa,yqb,yqc,yqd,yqe,yqf]
 refine ziU (by kernel_rfl) ?_
 repeat' first|refine zie rfl ?_|refine zc4 rfl ?_|refine zc7 ?_|refine zc8 ?_|refine zc5 ?_|refine zc6 ?_|(simp (maxSteps:=2000000) only [go_sem,yqa,yqb,yqc,yqd,yqe,yqf];try rfl)|refine zc3 ?_|(refine And.intro ?_ ?_;focus (intros;simp_all only [yqg,yqh,yqi,and_self,true_and,and_true];done))
 refine zc9 rfl (fun c3=>?_) (fun c3=>?_)
 ·(rw [Bool.not_eq_true'] at c3;exact (of_decide_eq_false c3 (by simp only [e1,e2,e3,e4,e5])).elim)
 refine zc5 ?_
 simp (maxSteps:=2000000) only [go_sem,yqa,yqb,yqc,yqd,yqe,yqf]
 refine zie rfl ?_
 simp (maxSteps:=2000000) only [go_sem,yqa,yqb,yqc,yqd,yqe,yqf]
 refine zwx [0,0,1] rfl ?_
 simp (maxSteps:=2000000) only [go_sem,yqa,yqb,yqc,yqd,yqe,yqf]
 have cn6:zyp s3≤6 * 1048576:=zyS rfl (zwR e3 hb0)
 refine zlE (x:=⟨Tryz.prog,W0,h,_⟩) (zNv s3 (1:Int) _ ok3 ow3 m3.2.2 (by omega)) rfl (fun b hb=>⟨Foot.dom (x:=s3) ow3 b hb,.inl (n3_h b hb)⟩) ?_
 rintro v h6 kp6 ⟨rfl,ok6,ow6⟩
 replace ow4:=(ok_keep (x:=s4) ok4 ow4 d4_3 kp6)
 have ok4':=ow4.1
 clear ok4
 have ok4:=ok4'
 clear ok4'
 replace ow4:=ow4.2
 replace Lh:=zwT Lh n3_h kp6
 replace Lh2:=zwT Lh2 n3_h2 kp6
 simp (maxSteps:=2000000) only [go_sem,yqa,yqb,yqc,yqd,yqe,yqf]
 repeat' first|refine zie rfl ?_|refine zc4 rfl ?_|refine zc7 ?_|refine zc8 ?_|refine zc5 ?_|refine zc6 ?_|(simp (maxSteps:=2000000) only [go_sem,yqa,yqb,yqc,yqd,yqe,yqf];try rfl)|refine zc3 ?_|(refine And.intro ?_ ?_;focus (intros;simp_all only [yqg,yqh,yqi,and_self,true_and,and_true];done))
 refine zhF (fun _=>zHH _ _ _ ok4 (Enc.mono (x:=s2) Lh2 ok2)) ?_
 repeat' first|refine zie rfl ?_|refine zc4 rfl ?_|refine zc7 ?_|refine zc8 ?_|refine zc5 ?_|refine zc6 ?_|(simp (maxSteps:=2000000) only [go_sem,yqa,yqb,yqc,yqd,yqe,yqf];try rfl)|refine zc3 ?_|(refine And.intro ?_ ?_;focus (intros;simp_all only [yqg,yqh,yqi,and_self,true_and,and_true];done))
 refine zc9 rfl (fun c4=>?_) (fun c4=>?_)
 ·simp only [yqh] at c4
  rcases c4 with c4|c4
  ·(exact absurd (of_decide_eq_true c4) (by omega))
  ·(rw [Bool.not_eq_true'] at c4;exact (of_decide_eq_false c4 (by simp only [e1,e2,e3,e4,e5])).elim)
 refine zc5 ?_
 simp (maxSteps:=2000000) only [go_sem,yqa,yqb,yqc,yqd,yqe,yqf]
 refine zie rfl ?_
 simp (maxSteps:=2000000) only [go_sem,yqa,yqb,yqc,yqd,yqe,yqf]
 refine zwx [0,0,1] rfl ?_
 simp (maxSteps:=2000000) only [go_sem,yqa,yqb,yqc,yqd,yqe,yqf]
 have cn7:Mk.cnt s4≤6 * 1048576:=zwU e4 (zMK _ _)
 refine zlE (x:=⟨Tryz.prog,W0,h,_⟩) (zM0 s4 (1:Int) _ ok4 ow4 m4.2.2 (by omega)) rfl (fun b hb=>⟨Foot.dom (x:=s4) ow4 b hb,.inl (n4_h b hb)⟩) ?_
 rintro v h7 kp7 ⟨rfl,ok7,ow7⟩
 replace ow6:=(ok_keep (x:=(zyo s3 (1:Int))) ok6 ow6 (fun b hb hu=>d4_3 b hu (by first|exact hb|(rw [MkOk.foot] at hb;exact hb)|(rw [zyQ] at hb;exact hb))) kp7)
 have ok6':=ow6.1
 clear ok6
 have ok6:=ok6'
 clear ok6'
 replace ow6:=ow6.2
 replace Lh:=zwT Lh n4_h kp7
 replace Lh2:=zwT Lh2 n4_h2 kp7
 simp (maxSteps:=2000000) only [go_sem,yqa,yqb,yqc,yqd,yqe,yqf]
 repeat' first|refine zie rfl ?_|refine zc4 rfl ?_|refine zc7 ?_|refine zc8 ?_|refine zc5 ?_|refine zc6 ?_|(simp (maxSteps:=2000000) only [go_sem,yqa,yqb,yqc,yqd,yqe,yqf];try rfl)|refine zc3 ?_|(refine And.intro ?_ ?_;focus (intros;simp_all only [yqg,yqh,yqi,and_self,true_and,and_true];done))
 have hh1:=zM2 (Mk.put s4 (1:Int)) 1 h7 ok7 (zl3 (l:=s4.l)) (by have h0:=cn7;have h1:=MkOk.cnt s4 (1:Int);(try rw [h1]);omega)
 rw [zwV] at hh1
 refine zhF (fun _=>hh1) ?_
 repeat' first|refine zie rfl ?_|refine zc4 rfl ?_|refine zc7 ?_|refine zc8 ?_|refine zc5 ?_|refine zc6 ?_|(simp (maxSteps:=2000000) only [go_sem,yqa,yqb,yqc,yqd,yqe,yqf];try rfl)|refine zc3 ?_|(refine And.intro ?_ ?_;focus (intros;simp_all only [yqg,yqh,yqi,and_self,true_and,and_true];done))
 refine zc9 rfl (fun c5=>?_) (fun c5=>?_)
 ·(exact absurd (of_decide_eq_true c5) (by omega))
 repeat' first|refine zie rfl ?_|refine zc4 rfl ?_|refine zc7 ?_|refine zc8 ?_|refine zc5 ?_|refine zc6 ?_|(simp (maxSteps:=2000000) only [go_sem,yqa,yqb,yqc,yqd,yqe,yqf];try rfl)|refine zc3 ?_|(refine And.intro ?_ ?_;focus (intros;simp_all only [yqg,yqh,yqi,and_self,true_and,and_true];done))
 refine zc9 rfl (fun c6=>?_) (fun c6=>?_)
 ·(exact absurd (by first|rfl|rw [MkOk.cnt]|(simp only [MkOk.cnt])) (zjD c6))
 repeat' first|refine zie rfl ?_|refine zc4 rfl ?_|refine zc7 ?_|refine zc8 ?_|refine zc5 ?_|refine zc6 ?_|(simp (maxSteps:=2000000) only [go_sem,yqa,yqb,yqc,yqd,yqe,yqf];try rfl)|refine zc3 ?_|(refine And.intro ?_ ?_;focus (intros;simp_all only [yqg,yqh,yqi,and_self,true_and,and_true];done))
 refine ziV rfl ?_
 refine zi3 [0,2] rfl (by kernel_rfl) ?_
 simp (maxSteps:=2000000) only [go_sem,yqa,yqb,yqc,yqd,yqe,yqf]
 refine ziT [1] (by kernel_rfl) (by kernel_rfl) ?_
 simp (maxSteps:=2000000) only [go_sem,yqa,yqb,yqc,yqd,yqe,yqf]
 refine zkr (zHy _ _ (Enc.mono (x:=a0) Lh oa0) hb0) rfl ?_
 rintro v h8 le8 ⟨s8,rfl,e8,ok8,m8⟩
 replace ow6:=zmF (x:=(zyo s3 (1:Int))) le8 ok6 ow6
 replace ok6:=Enc.mono (x:=(zyo s3 (1:Int))) le8 ok6
 replace ow7:=zmF (x:=(Mk.put s4 (1:Int))) le8 ok7 ow7
 replace ok7:=Enc.mono (x:=(Mk.put s4 (1:Int))) le8 ok7
 replace Lh:=Hp.le_trans Lh le8
 replace Lh2:=Hp.le_trans Lh2 le8
 simp (maxSteps:=2000000) only [go_sem,yqa,yqb,yqc,yqd,yqe,yqf]
 refine ziT [3] (by kernel_rfl) (by kernel_rfl) ?_
 simp (maxSteps:=2000000) only [go_sem,yqa,yqb,yqc,yqd,yqe,yqf]
 refine zhF (fun _=>zHp _ _) ?_
 simp (maxSteps:=2000000) only [go_sem,yqa,yqb,yqc,yqd,yqe,yqf]
 refine ziT [4] (by kernel_rfl) (by kernel_rfl) ?_
 simp (maxSteps:=2000000) only [go_sem,yqa,yqb,yqc,yqd,yqe,yqf]
 refine zkr (zMA _ _ _ ok8 (Enc.mono (x:=a1) Lh oa1)) rfl ?_
 rintro v h9 le9 ⟨s9,rfl,e9,ok9,m9⟩
 replace ow6:=zmF (x:=(zyo s3 (1:Int))) le9 ok6 ow6
 replace ok6:=Enc.mono (x:=(zyo s3 (1:Int))) le9 ok6
 replace ow7:=zmF (x:=(Mk.put s4 (1:Int))) le9 ok7 ow7
 replace ok7:=Enc.mono (x:=(Mk.put s4 (1:Int))) le9 ok7
 replace ok8:=Enc.mono (x:=s8) le9 ok8
 replace Lh:=Hp.le_trans Lh le9
 replace Lh2:=Hp.le_trans Lh2 le9
 simp (maxSteps:=2000000) only [go_sem,yqa,yqb,yqc,yqd,yqe,yqf]
 refine zi3 [5] rfl (by kernel_rfl) ?_
 simp (maxSteps:=2000000) only [go_sem,yqa,yqb,yqc,yqd,yqe,yqf]
 refine ziU (by kernel_rfl) ?_
 repeat' first|refine zie rfl ?_|refine zc4 rfl ?_|refine zc7 ?_|refine zc8 ?_|refine zc5 ?_|refine zc6 ?_|(simp (maxSteps:=2000000) only [go_sem,yqa,yqb,yqc,yqd,yqe,yqf];try rfl)|refine zc3 ?_|(refine And.intro ?_ ?_;focus (intros;simp_all only [yqg,yqh,yqi,and_self,true_and,and_true];done))
 refine zhF (fun _=>zHH _ _ _ ok9 (Enc.mono (x:=s2) Lh2 ok2)) ?_
 repeat' first|refine zie rfl ?_|refine zc4 rfl ?_|refine zc7 ?_|refine zc8 ?_|refine zc5 ?_|refine zc6 ?_|(simp (maxSteps:=2000000) only [go_sem,yqa,yqb,yqc,yqd,yqe,yqf];try rfl)|refine zc3 ?_|(refine And.intro ?_ ?_;focus (intros;simp_all only [yqg,yqh,yqi,and_self,true_and,and_true];done))
 refine zc9 rfl (fun c7=>?_) (fun c7=>?_)
 ·(rw [Bool.not_eq_true'] at c7;exact (of_decide_eq_false c7 (by simp only [e1,e2,e3,e4,e5,e8,e9])).elim)
 repeat' first|refine zie rfl ?_|refine zc4 rfl ?_|refine zc7 ?_|refine zc8 ?_|refine zc5 ?_|refine zc6 ?_|(simp (maxSteps:=2000000) only [go_sem,yqa,yqb,yqc,yqd,yqe,yqf];try rfl)|refine zc3 ?_|(refine And.intro ?_ ?_;focus (intros;simp_all only [yqg,yqh,yqi,and_self,true_and,and_true];done))
 have hh2:=zM2 (Mk.put s4 (1:Int)) 1 h9 ok7 (zl3 (l:=s4.l)) (by have h0:=cn7;have h1:=MkOk.cnt s4 (1:Int);(try rw [h1]);omega)
 rw [zwV] at hh2
 refine zhF (fun _=>hh2) ?_
 repeat' first|refine zie rfl ?_|refine zc4 rfl ?_|refine zc7 ?_|refine zc8 ?_|refine zc5 ?_|refine zc6 ?_|(simp (maxSteps:=2000000) only [go_sem,yqa,yqb,yqc,yqd,yqe,yqf];try rfl)|refine zc3 ?_|(refine And.intro ?_ ?_;focus (intros;simp_all only [yqg,yqh,yqi,and_self,true_and,and_true];done))
 refine zc9 rfl (fun c8=>?_) (fun c8=>?_)
 ·(exact absurd (of_decide_eq_true c8) (by omega))
 repeat' first|refine zie rfl ?_|refine zc4 rfl ?_|refine zc7 ?_|refine zc8 ?_|refine zc5 ?_|refine zc6 ?_|(simp (maxSteps:=2000000) only [go_sem,yqa,yqb,yqc,yqd,yqe,yqf];try rfl)|refine zc3 ?_|(refine And.intro ?_ ?_;focus (intros;simp_all only [yqg,yqh,yqi,and_self,true_and,and_true];done))
 refine zc9 rfl (fun c9=>?_) (fun c9=>?_)
 ·(exact absurd (by first|rfl|rw [MkOk.cnt]|(simp only [MkOk.cnt])) (zjD c9))
 repeat' first|refine zie rfl ?_|refine zc4 rfl ?_|refine zc7 ?_|refine zc8 ?_|refine zc5 ?_|refine zc6 ?_|(simp (maxSteps:=2000000) only [go_sem,yqa,yqb,yqc,yqd,yqe,yqf];try rfl)|refine zc3 ?_|(refine And.intro ?_ ?_;focus (intros;simp_all only [yqg,yqh,yqi,and_self,true_and,and_true];done))
set_option maxRecDepth 100000 in
theorem zM7 (os:Os) (started:os.Started) (H:Type) (enc:TypeId × Value→H) :
  ReturnsInHanded {} Tryz.checked os 8 .any (Rows.fnExactOptionsOfSpec.pre6 enc Tryz.prog Tryz.f8 Rows.fnExactOptionsOfRow.domain false) (Rows.fnExactOptionsOfSpec.post enc Tryz.prog Tryz.f8 false true false false):=by
 refine returnsInHanded_of_change (C:=Tryz.checked) Tryz.own started (by kernel_rfl) Tryz.func8
  (ChangeSpec.witness6 (enc:=enc) (C:=Tryz.checked) false ⟨#[],#[.agg #[.int .i64 0,.slice none 0 0,.slice none 0 0,.slice none 0 0,.slice none 0 0,.slice none 0 0,.int .i64 0,.bool false,.int .i64 0,.int .i64 0,.int .i64 0,.slice none 0 0],.agg #[.int .i64 0,.int .i64 0,.int .i64 0,.int .i64 0,.int .i64 0]],[]⟩ 8 (by kernel_rfl) (by kernel_rfl) (by kernel_rfl) (by kernel_rfl)) ?_
 intro W base args ds gs before hval0 hW hcnd _
 have hval:∀ (j:Nat) t v,Tryz.f8.params[j]?=some t→args[j]?=some v→Value.okWide Tryz.prog W .any base t v:=hval0
 have hW':=hW
 obtain ⟨p,q,hA0,hV,rfl,hfz,hnd⟩:=hW
 have hA:DataW.TrodAll enc Tryz.prog W 0 (fun _=>true) true Tryz.f8.params.toList args.toList ds p:=hA0
 rw [Tryz.params8] at hA hval
 obtain ⟨args⟩:=args
 obtain ⟨rfl,rfl⟩:=trodVars_none hV
 have hA9:=hA
 obtain ⟨v0,vs0,d0,ds0,p0,q0,ev0,rfl,rfl,k0,r0⟩:=trodAll_cons hA
 obtain ⟨v1,vs1,d1,ds1,p1,q1,ev1,rfl,rfl,k1,r1⟩:=trodAll_cons r0
 obtain ⟨ev2,rfl,rfl⟩:=trodAll_nil r1
 simp only at ev0 ev1 ev2
 subst ev2
 subst ev1
 subst ev0
 obtain ⟨a0,rfl,oa0⟩:=zlB Tryz.underlying39 zMY (hval 0 _ v0 rfl rfl) k0
 obtain ⟨a1,rfl,oa1⟩:=zlB Tryz.underlying77 zML (hval 1 _ v1 rfl rfl) k1
 simp only [List.append_nil] at hW' hA9
 have hct:=FnExactOptionsOf_fn a0 a1 (vw W) oa0 oa1
 unfold Ct at hct
 refine (hct.2 W (zks W)).mono fun e W' ⟨v,h',he,hv,hb,_⟩=>?_
 subst he hv
 have hlt:∀ x ∈ (p0 ++ (p1)),x.block < W.heap.size:=fun x hx=>hW'.lt x hx
 exact ⟨_,rfl,zky hW' hb (fun _=>rfl) (fun _ _ _=>trodAll_mk1 (shut_bool Tryz.underlying4 true))
  (fun sp hsp=>zlC Tryz.laidOut hb (by kernel_rfl) hlt hsp hA9)⟩
set_option maxRecDepth 100000 in
set_option maxHeartbeats 200000000 in
theorem zM8:joinedFacts Tryz.pinned.checked.prog 8 Tryz.f8 Rows.fnExactOptionsOfSpec Rows.fnExactOptionsOfRow=true:=by
 unfold joinedFacts
 repeat' (rw [yqi];constructor)
 all_goals (as_aux_lemma=>kernel_rfl)
set_option maxRecDepth 100000 in
theorem FnExactOptionsOf_holds:Rows.FnExactOptionsOfSaid :=
 OpenClaim.holds_of_wide 8 Tryz.f8 rfl rfl rfl rfl rfl rfl rfl ⟨rfl,rfl,rfl,rfl,rfl⟩ rfl rfl rfl rfl rfl (by as_aux_lemma=>kernel_rfl) Tryz.func8 zM8
  (of_decide_eq_true (by as_aux_lemma=>kernel_rfl)) (by unfold Func.isWrapper;rw [if_neg (of_decide_eq_false (by as_aux_lemma=>kernel_rfl))];exact ⟨rfl,rfl⟩)
  (fun os started H enc _=>zM7 os started H enc)
end Go.Proofs.YtjiggadgmmjnhaaGreat
