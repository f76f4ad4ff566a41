/- The walk of a law of the given program, and the law itself as it is stated: it holds of every input. No condition. -/
import Derived.Test.YtbkaaakphpbmiaaGreatRows
import Derived.Test.YtbkaaakphpbmiaaGreatXGBestPlan28
import Derived.Test.YtbkaaakphpbmiaaGreatXGBestPlan6
import Derived.Test.YtbkaaakphpbmiaaGreatXGBestPlan8
set_option linter.unusedVariables false
set_option linter.unusedSimpArgs false
set_option maxRecDepth 4000
open Nat renaming reduceAdd → jq, reduceMul → jj, reduceBEq → jy, reduceLeDiff → jv, reduceLT → jk, reduceEqDiff → jx
open Bool renaming or_eq_false_iff → jp, or_eq_true → jQ, and_eq_true → jJ
open Int renaming toNat_natCast → jW, natCast_nonneg → jY
open Go.Proofs.Tryz renaming prog → jV
namespace Go.Proofs.YtbkaaakphpbmiaaGreat
open Go Go.SL Go.RowKit Go.ChangeShapes Go.WideShapes Go.ChangeAt
set_option maxHeartbeats 1000000
set_option maxRecDepth 100000 in
theorem FnExactBestPlan_fn (a0:DHarbour) (a1:Sl DCall) (h:Hp) (oa0:Enc.ok h a0) (oa1:Enc.ok h a1):Ct jV 12 [.agg #[.int .i64 a0.forecast.tide.mean,a0.forecast.tide.parts.val,a0.forecast.surges.val,a0.chart.points.val,a0.chart.segments.val,a0.fleet.val,.int .i64 a0.regime.gap,.bool a0.regime.noMeet,.int .i64 a0.crew.tugs,.int .i64 a0.crew.pilots,.int .i64 a0.crew.rest,a0.crew.moves.val],a1.val] h fun v h'=>v=.bool true:=by
 refine zdn (fun A W=>by simp) Tryz.func12 rfl rfl (by simp) fun W0=>?_
 refine Wk ?_
 refine zhF (fun _=>zXV _ _ _ oa0 (by omega)) ?_
 refine Wk ?_
 refine zc9 rfl (fun c1=>?_) (fun c1=>?_)
 ·exact Wk0
 have hp0:=zOL c1
 have hn0:=zON (show (0:Int)≤1048576∧(1048576:Int)≤1048576 by omega) hp0
 have hb0:Blk.blk a0≤1048576:=by have h1:=zOO hp0;have h2:=(show (0:Int)≤1048576∧(1048576:Int)≤1048576 by omega);omega
 refine Wk ?_
 refine zhF (fun _=>zXL _ _ _ oa1 hn0) ?_
 refine Wk ?_
 refine zc9 rfl (fun c2=>?_) (fun c2=>?_)
 ·exact Wk0
 have hp1:=zOL c2
 have hn1:=zON hn0 hp1
 have hb1:Blk.blk a1≤1048576:=by have h1:=zOO hp1;have h2:=hn0;omega
 refine Wk ?_
 refine zkj (zYe _ _ oa0 hb0) rfl ?_
 rintro v h1 le1 ⟨s1,rfl,e1,ok1,m1⟩
 have Lh:=le1
 refine Wk ?_
 refine zkj (zX4 _ _ (Enc.mono (x:=a1) Lh oa1) hb1) rfl ?_
 rintro v h2 le2 ⟨s2,rfl,e2,ok2,m2⟩
 replace ok1:=Enc.mono (x:=s1) le2 ok1
 replace Lh:=Hp.le_trans Lh le2
 refine Wk ?_
 refine zkj (z07 _ _ _ ok1 ok2) rfl ?_
 rintro v h3 le3 ⟨s3,rfl,e3,ok3,m3⟩
 replace ok1:=Enc.mono (x:=s1) le3 ok1
 replace ok2:=Enc.mono (x:=s2) le3 ok2
 replace Lh:=Hp.le_trans Lh le3
 have okw:=ok3
 have Lh3:=Hp.le_refl h3
 refine Wk ?_
 refine zkj (zYe _ _ (Enc.mono (x:=a0) Lh oa0) hb0) rfl ?_
 rintro v h4 le4 ⟨s4,rfl,e4,ok4,m4⟩
 have n4_h:∀ b ∈ Foot.foot s4,h b=none:=fun b hb=>zmx Lh (m4.2.1 b hb)
 have n4_h3:∀ b ∈ Foot.foot s4,h3 b=none:=fun b hb=>zmx Lh3 (m4.2.1 b hb)
 replace ok1:=Enc.mono (x:=s1) le4 ok1
 replace ok2:=Enc.mono (x:=s2) le4 ok2
 replace Lh:=Hp.le_trans Lh le4
 replace Lh3:=Hp.le_trans Lh3 le4
 have ow4:=m4.1
 refine Wk ?_
 refine zkj (zX4 _ _ (Enc.mono (x:=a1) Lh oa1) hb1) rfl ?_
 rintro v h5 le5 ⟨s5,rfl,e5,ok5,m5⟩
 have d5_4:∀ b ∈ Foot.foot s5,¬ (b ∈ Foot.foot s4):=fun b hb hu=>Foot.dom (x:=s4) ow4 b hu (m5.2.1 b hb)
 have n5_h:∀ b ∈ Foot.foot s5,h b=none:=fun b hb=>zmx Lh (m5.2.1 b hb)
 have n5_h3:∀ b ∈ Foot.foot s5,h3 b=none:=fun b hb=>zmx Lh3 (m5.2.1 b hb)
 replace ow4:=zPF (x:=s4) le5 ok4 ow4
 replace ok4:=Enc.mono (x:=s4) le5 ok4
 replace ok1:=Enc.mono (x:=s1) le5 ok1
 replace ok2:=Enc.mono (x:=s2) le5 ok2
 replace Lh:=Hp.le_trans Lh le5
 replace Lh3:=Hp.le_trans Lh3 le5
 have ow5:=m5.1
 refine Wk ?_
 refine zkj (zMw _ _ _ ok4 ok5) rfl ?_
 rintro v h6 le6 ⟨s6,rfl,e6,ok6,m6⟩
 have d6_4:∀ b ∈ Foot.foot s6,¬ (b ∈ Foot.foot s4):=fun b hb hu=>Foot.dom (x:=s4) ow4 b hu (m6.2.1 b hb)
 have d6_5:∀ b ∈ Foot.foot s6,¬ (b ∈ Foot.foot s5):=fun b hb hu=>Foot.dom (x:=s5) ow5 b hu (m6.2.1 b hb)
 have n6_h:∀ b ∈ Foot.foot s6,h b=none:=fun b hb=>zmx Lh (m6.2.1 b hb)
 have n6_h3:∀ b ∈ Foot.foot s6,h3 b=none:=fun b hb=>zmx Lh3 (m6.2.1 b hb)
 replace ow4:=zPF (x:=s4) le6 ok4 ow4
 replace ok4:=Enc.mono (x:=s4) le6 ok4
 replace ow5:=zPF (x:=s5) le6 ok5 ow5
 replace ok5:=Enc.mono (x:=s5) le6 ok5
 replace ok1:=Enc.mono (x:=s1) le6 ok1
 replace ok2:=Enc.mono (x:=s2) le6 ok2
 replace Lh:=Hp.le_trans Lh le6
 replace Lh3:=Hp.le_trans Lh3 le6
 have ow6:=m6.1
 refine Wk ?_
 refine zhF (fun _=>zYg _ _ _ ok6 (Enc.mono (x:=s3) Lh3 ok3)) ?_
 refine Wk ?_
 refine zc9 rfl (fun c3=>?_) (fun c3=>?_)
 ·simp only [jQ] at c3
  rcases c3 with (c3|c3)|c3
  ·(rw [Bool.not_eq_true'] at c3;exact (of_decide_eq_false c3 (by simp only [e1,e2,e3,e4,e5,e6])).elim)
  ·(exact absurd (by simp only [e1,e2,e3,e4,e5,e6]) (zjD c3))
  ·(exact absurd (by simp only [e1,e2,e3,e4,e5,e6]) (zjD c3))
 refine Wk ?_
 refine ziV rfl ?_
 refine zi3 [0,1] rfl (by kernel_rfl) ?_
 refine Evs ?_
 refine ziT [2] (by kernel_rfl) (by kernel_rfl) ?_
 refine Evs ?_
 refine zkj (zYe _ _ (Enc.mono (x:=a0) Lh oa0) hb0) rfl ?_
 rintro v h7 le7 ⟨s7,rfl,e7,ok7,m7⟩
 replace ow4:=zPF (x:=s4) le7 ok4 ow4
 replace ok4:=Enc.mono (x:=s4) le7 ok4
 replace ow5:=zPF (x:=s5) le7 ok5 ow5
 replace ok5:=Enc.mono (x:=s5) le7 ok5
 replace ow6:=zPF (x:=s6) le7 ok6 ow6
 replace ok6:=Enc.mono (x:=s6) le7 ok6
 replace ok1:=Enc.mono (x:=s1) le7 ok1
 replace ok2:=Enc.mono (x:=s2) le7 ok2
 replace Lh:=Hp.le_trans Lh le7
 replace Lh3:=Hp.le_trans Lh3 le7
 refine Evs ?_
 refine ziT [3] (by kernel_rfl) (by kernel_rfl) ?_
 refine Evs ?_
 refine zhF (fun _=>zYA _ _ _ ok4 ok7) ?_
 refine Evs ?_
 refine zi3 [4] rfl (by kernel_rfl) ?_
 refine Evs ?_
 refine ziU (by kernel_rfl) ?_
 refine Wk ?_
 refine zc9 rfl (fun c4=>?_) (fun c4=>?_)
 ·(rw [Bool.not_eq_true'] at c4;exact (of_decide_eq_false c4 (by simp only [e1,e2,e3,e4,e5,e6,e7])).elim)
 refine Wk ?_
 refine zkj (zX4 _ _ (Enc.mono (x:=a1) Lh oa1) hb1) rfl ?_
 rintro v h8 le8 ⟨s8,rfl,e8,ok8,m8⟩
 replace ow4:=zPF (x:=s4) le8 ok4 ow4
 replace ok4:=Enc.mono (x:=s4) le8 ok4
 replace ow5:=zPF (x:=s5) le8 ok5 ow5
 replace ok5:=Enc.mono (x:=s5) le8 ok5
 replace ow6:=zPF (x:=s6) le8 ok6 ow6
 replace ok6:=Enc.mono (x:=s6) le8 ok6
 replace ok1:=Enc.mono (x:=s1) le8 ok1
 replace ok2:=Enc.mono (x:=s2) le8 ok2
 replace ok7:=Enc.mono (x:=s7) le8 ok7
 replace Lh:=Hp.le_trans Lh le8
 replace Lh3:=Hp.le_trans Lh3 le8
 refine Wk ?_
 refine zhF (fun _=>zYo _ _ _ ok5 ok8) ?_
 refine Wk ?_
 refine zc9 rfl (fun c5=>?_) (fun c5=>?_)
 ·(rw [Bool.not_eq_true'] at c5;exact (of_decide_eq_false c5 (by simp only [e1,e2,e3,e4,e5,e6,e7,e8])).elim)
 refine zc5 ?_
 refine Evs ?_
 refine zie rfl ?_
 refine Evs ?_
 refine zlr [0,0,1] rfl ?_
 refine Evs ?_
 have cn9:zPB s4≤6 * 1048576:=zPY rfl (zPE e4 hb0)
 refine zli (x:=⟨jV,W0,h,_⟩) (zYV s4 (1:Int) _ ok4 ow4 m4.2.2 (by omega)) rfl (fun b hb=>⟨Foot.dom (x:=s4) ow4 b hb,.inl (n4_h b hb)⟩) ?_
 rintro v h9 kp9 ⟨rfl,ok9,ow9⟩
 replace ow5:=(ok_keep (x:=s5) ok5 ow5 d5_4 kp9)
 have ok5':=ow5.1
 clear ok5
 have ok5:=ok5'
 clear ok5'
 replace ow5:=ow5.2
 replace ow6:=(ok_keep (x:=s6) ok6 ow6 d6_4 kp9)
 have ok6':=ow6.1
 clear ok6
 have ok6:=ok6'
 clear ok6'
 replace ow6:=ow6.2
 replace Lh:=zPG Lh n4_h kp9
 replace Lh3:=zPG Lh3 n4_h3 kp9
 refine Evs ?_
 refine zlr [0,0,1] rfl ?_
 refine Evs ?_
 have cn10:Mk.cnt s5≤6 * 1048576:=zPH rfl (zPE e5 hb1)
 refine zli (x:=⟨jV,W0,h,_⟩) (zYJ s5 ((1:Int)+(zPB s4:Nat)) _ ok5 ow5 m5.2.2 (by omega)) rfl (fun b hb=>⟨Foot.dom (x:=s5) ow5 b hb,.inl (n5_h b hb)⟩) ?_
 rintro v h10 kp10 ⟨rfl,ok10,ow10⟩
 replace ow9:=(ok_keep (x:=(zPA s4 (1:Int))) ok9 ow9 (fun b hb hu=>d5_4 b hu (by first|exact hb|(rw [MkOk.foot] at hb;exact hb)|(rw [zPW] at hb;exact hb))) kp10)
 have ok9':=ow9.1
 clear ok9
 have ok9:=ok9'
 clear ok9'
 replace ow9:=ow9.2
 replace ow6:=(ok_keep (x:=s6) ok6 ow6 d6_5 kp10)
 have ok6':=ow6.1
 clear ok6
 have ok6:=ok6'
 clear ok6'
 replace ow6:=ow6.2
 replace Lh:=zPG Lh n5_h kp10
 replace Lh3:=zPG Lh3 n5_h3 kp10
 refine Evs ?_
 refine Wk ?_
 refine zhF (fun _=>zYg _ _ _ ok6 (Enc.mono (x:=s3) Lh3 ok3)) ?_
 refine Wk ?_
 refine zc9 rfl (fun c6=>?_) (fun c6=>?_)
 ·simp only [jQ] at c6
  rcases c6 with ((c6|c6)|c6)|c6
  ·(exact absurd (of_decide_eq_true c6) (by omega))
  ·(rw [Bool.not_eq_true'] at c6;exact (of_decide_eq_false c6 (by simp only [e1,e2,e3,e4,e5,e6,e7,e8])).elim)
  ·(exact absurd (by simp only [e1,e2,e3,e4,e5,e6,e7,e8]) (zjD c6))
  ·(exact absurd (by simp only [e1,e2,e3,e4,e5,e6,e7,e8]) (zjD c6))
 refine zc5 ?_
 refine Evs ?_
 refine zie rfl ?_
 refine Evs ?_
 refine zlr [0,0,1] rfl ?_
 refine Evs ?_
 have cn11:Mk.cnt s6≤6 * 1048576:=zPH e6 (z09 _ _)
 refine zli (x:=⟨jV,W0,h,_⟩) (zYI s6 (1:Int) _ ok6 ow6 m6.2.2 (by omega)) rfl (fun b hb=>⟨Foot.dom (x:=s6) ow6 b hb,.inl (n6_h b hb)⟩) ?_
 rintro v h11 kp11 ⟨rfl,ok11,ow11⟩
 replace ow9:=(ok_keep (x:=(zPA s4 (1:Int))) ok9 ow9 (fun b hb hu=>d6_4 b hu (by first|exact hb|(rw [MkOk.foot] at hb;exact hb)|(rw [zPW] at hb;exact hb))) kp11)
 have ok9':=ow9.1
 clear ok9
 have ok9:=ok9'
 clear ok9'
 replace ow9:=ow9.2
 replace ow10:=(ok_keep (x:=(Mk.put s5 ((1:Int)+(zPB s4:Nat)))) ok10 ow10 (fun b hb hu=>d6_5 b hu (by first|exact hb|(rw [MkOk.foot] at hb;exact hb))) kp11)
 have ok10':=ow10.1
 clear ok10
 have ok10:=ok10'
 clear ok10'
 replace ow10:=ow10.2
 replace Lh:=zPG Lh n6_h kp11
 replace Lh3:=zPG Lh3 n6_h3 kp11
 refine Evs ?_
 refine Wk ?_
 have hh1:=zYW (Mk.put s6 (1:Int)) 1 h11 ok11 (zlM (l:=s6.l)) (by have h0:=cn11;have h1:=MkOk.cnt s6 (1:Int);(try rw [h1]);omega)
 rw [zPI] at hh1
 refine zhF (fun _=>hh1) ?_
 refine Wk ?_
 refine zc9 rfl (fun c7=>?_) (fun c7=>?_)
 ·(exact absurd (of_decide_eq_true c7) (by omega))
 refine Wk ?_
 refine zc9 rfl (fun c8=>?_) (fun c8=>?_)
 ·(exact absurd (by first|rfl|rw [MkOk.cnt]|(simp only [MkOk.cnt])) (zjD c8))
 refine Wk ?_
 refine zkj (zYe _ _ (Enc.mono (x:=a0) Lh oa0) hb0) rfl ?_
 rintro v h12 le12 ⟨s12,rfl,e12,ok12,m12⟩
 replace ow9:=zPF (x:=(zPA s4 (1:Int))) le12 ok9 ow9
 replace ok9:=Enc.mono (x:=(zPA s4 (1:Int))) le12 ok9
 replace ow10:=zPF (x:=(Mk.put s5 ((1:Int)+(zPB s4:Nat)))) le12 ok10 ow10
 replace ok10:=Enc.mono (x:=(Mk.put s5 ((1:Int)+(zPB s4:Nat)))) le12 ok10
 replace ow11:=zPF (x:=(Mk.put s6 (1:Int))) le12 ok11 ow11
 replace ok11:=Enc.mono (x:=(Mk.put s6 (1:Int))) le12 ok11
 replace Lh:=Hp.le_trans Lh le12
 replace Lh3:=Hp.le_trans Lh3 le12
 refine Wk ?_
 refine zkj (zX4 _ _ (Enc.mono (x:=a1) Lh oa1) hb1) rfl ?_
 rintro v h13 le13 ⟨s13,rfl,e13,ok13,m13⟩
 replace ow9:=zPF (x:=(zPA s4 (1:Int))) le13 ok9 ow9
 replace ok9:=Enc.mono (x:=(zPA s4 (1:Int))) le13 ok9
 replace ow10:=zPF (x:=(Mk.put s5 ((1:Int)+(zPB s4:Nat)))) le13 ok10 ow10
 replace ok10:=Enc.mono (x:=(Mk.put s5 ((1:Int)+(zPB s4:Nat)))) le13 ok10
 replace ow11:=zPF (x:=(Mk.put s6 (1:Int))) le13 ok11 ow11
 replace ok11:=Enc.mono (x:=(Mk.put s6 (1:Int))) le13 ok11
 replace ok12:=Enc.mono (x:=s12) le13 ok12
 replace Lh:=Hp.le_trans Lh le13
 replace Lh3:=Hp.le_trans Lh3 le13
 refine Wk ?_
 refine zkj (zMw _ _ _ ok12 ok13) rfl ?_
 rintro v h14 le14 ⟨s14,rfl,e14,ok14,m14⟩
 replace ow9:=zPF (x:=(zPA s4 (1:Int))) le14 ok9 ow9
 replace ok9:=Enc.mono (x:=(zPA s4 (1:Int))) le14 ok9
 replace ow10:=zPF (x:=(Mk.put s5 ((1:Int)+(zPB s4:Nat)))) le14 ok10 ow10
 replace ok10:=Enc.mono (x:=(Mk.put s5 ((1:Int)+(zPB s4:Nat)))) le14 ok10
 replace ow11:=zPF (x:=(Mk.put s6 (1:Int))) le14 ok11 ow11
 replace ok11:=Enc.mono (x:=(Mk.put s6 (1:Int))) le14 ok11
 replace ok12:=Enc.mono (x:=s12) le14 ok12
 replace ok13:=Enc.mono (x:=s13) le14 ok13
 replace Lh:=Hp.le_trans Lh le14
 replace Lh3:=Hp.le_trans Lh3 le14
 refine Wk ?_
 refine zhF (fun _=>zYg _ _ _ ok14 (Enc.mono (x:=s3) Lh3 ok3)) ?_
 refine Wk ?_
 refine zc9 rfl (fun c9=>?_) (fun c9=>?_)
 ·simp only [jQ] at c9
  rcases c9 with (c9|c9)|c9
  ·(rw [Bool.not_eq_true'] at c9;exact (of_decide_eq_false c9 (by simp only [e1,e2,e3,e4,e5,e6,e7,e8,e12,e13,e14])).elim)
  ·(exact absurd (by simp only [e1,e2,e3,e4,e5,e6,e7,e8,e12,e13,e14]) (zjD c9))
  ·(exact absurd (by simp only [e1,e2,e3,e4,e5,e6,e7,e8,e12,e13,e14]) (zjD c9))
 refine Wk ?_
 have hh2:=zYW (Mk.put s6 (1:Int)) 1 h14 ok11 (zlM (l:=s6.l)) (by have h0:=cn11;have h1:=MkOk.cnt s6 (1:Int);(try rw [h1]);omega)
 rw [zPI] at hh2
 refine zhF (fun _=>hh2) ?_
 refine Wk ?_
 refine zc9 rfl (fun c10=>?_) (fun c10=>?_)
 ·(exact absurd (of_decide_eq_true c10) (by omega))
 refine Wk ?_
 refine zc9 rfl (fun c11=>?_) (fun c11=>?_)
 ·(exact absurd (by first|rfl|rw [MkOk.cnt]|(simp only [MkOk.cnt])) (zjD c11))
 exact Wk0
set_option maxRecDepth 100000 in
theorem z1x (os:Os) (started:os.Started) (H:Type) (enc:TypeId × Value→H) :
  ReturnsInHanded {} Tryz.checked os 12 .any (Rows.fnExactBestPlanSpec.pre6 enc jV Tryz.f12 Rows.fnExactBestPlanRow.domain false) (Rows.fnExactBestPlanSpec.post enc jV Tryz.f12 false true false false):=by
 refine returnsInHanded_of_change (C:=Tryz.checked) Tryz.own started (by kernel_rfl) Tryz.func12
  (ChangeSpec.witness6 (enc:=enc) (C:=Tryz.checked) false ⟨#[],#[.agg #[.int .i64 0,.slice none 0 0,.slice none 0 0,.slice none 0 0,.slice none 0 0,.slice none 0 0,.int .i64 0,.bool false,.int .i64 0,.int .i64 0,.int .i64 0,.slice none 0 0],.slice none 0 0],[]⟩ 8 (by kernel_rfl) (by kernel_rfl) (by kernel_rfl) (by kernel_rfl)) ?_
 intro W base args ds gs before hval0 hW hcnd _
 have hval:∀ (j:Nat) t v,Tryz.f12.params[j]?=some t→args[j]?=some v→Value.okWide jV W .any base t v:=hval0
 have hW':=hW
 obtain ⟨p,q,hA0,hV,rfl,hfz,hnd⟩:=hW
 have hA:DataW.TrodAll enc jV W 0 (fun _=>true) true Tryz.f12.params.toList args.toList ds p:=hA0
 rw [Tryz.params12] at hA hval
 obtain ⟨args⟩:=args
 obtain ⟨rfl,rfl⟩:=trodVars_none hV
 have hA9:=hA
 obtain ⟨v0,vs0,d0,ds0,p0,q0,ev0,rfl,rfl,k0,r0⟩:=trodAll_cons hA
 obtain ⟨v1,vs1,d1,ds1,p1,q1,ev1,rfl,rfl,k1,r1⟩:=trodAll_cons r0
 obtain ⟨ev2,rfl,rfl⟩:=trodAll_nil r1
 simp only at ev0 ev1 ev2
 subst ev2
 subst ev1
 subst ev0
 obtain ⟨a0,rfl,oa0⟩:=zOY Tryz.underlying39 z1w (hval 0 _ v0 rfl rfl) k0
 obtain ⟨a1,rfl,oa1⟩:=zlf Tryz.underlying40 z1f (hval 1 _ v1 rfl rfl) k1
 simp only [List.append_nil] at hW' hA9
 have hct:=FnExactBestPlan_fn a0 a1 (vw W) oa0 oa1
 unfold Ct at hct
 refine (hct.2 W (zkk W)).mono fun e W' ⟨v,h',he,hv,hb,_⟩=>?_
 subst he hv
 have hlt:∀ x ∈ (p0 ++ (p1)),x.block < W.heap.size:=fun x hx=>hW'.lt x hx
 exact ⟨_,rfl,zko hW' hb (fun _=>rfl) (fun _ _ _=>trodAll_mk1 (shut_bool Tryz.underlying4 true))
  (fun sp hsp=>zlg Tryz.laidOut hb (by kernel_rfl) hlt hsp hA9)⟩
set_option maxRecDepth 100000 in
set_option maxHeartbeats 200000000 in
theorem z1y:joinedFacts Tryz.pinned.checked.prog 12 Tryz.f12 Rows.fnExactBestPlanSpec Rows.fnExactBestPlanRow=true:=by
 unfold joinedFacts
 repeat' (rw [jJ];constructor)
 all_goals (as_aux_lemma=>kernel_rfl)
set_option maxRecDepth 100000 in
theorem FnExactBestPlan_holds:Rows.FnExactBestPlanSaid :=
 OpenClaim.holds_of_wide 12 Tryz.f12 rfl rfl rfl rfl rfl rfl rfl ⟨rfl,rfl,rfl,rfl,rfl⟩ rfl rfl rfl rfl rfl (by as_aux_lemma=>kernel_rfl) Tryz.func12 z1y
  (of_decide_eq_true (by as_aux_lemma=>kernel_rfl)) (by unfold Func.isWrapper;rw [if_neg (of_decide_eq_false (by as_aux_lemma=>kernel_rfl))];exact ⟨rfl,rfl⟩)
  (fun os started H enc _=>z1x os started H enc)
end Go.Proofs.YtbkaaakphpbmiaaGreat
