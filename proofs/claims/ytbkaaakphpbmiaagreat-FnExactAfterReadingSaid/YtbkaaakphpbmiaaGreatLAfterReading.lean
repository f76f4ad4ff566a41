/- The walk of a law of the given program, and the law itself as it is stated: it holds of every input. No condition. -/
import Derived.Test.YtbkaaakphpbmiaaGreatRows
import Derived.Test.YtbkaaakphpbmiaaGreatSAfterReadingx16
import Derived.Test.YtbkaaakphpbmiaaGreatXAfterReading24
import Derived.Test.YtbkaaakphpbmiaaGreatXAfterReading5
import Derived.Test.YtbkaaakphpbmiaaGreatXAfterReading6
import Derived.Test.YtbkaaakphpbmiaaGreatXAfterReading8
set_option linter.unusedVariables false
set_option linter.unusedSimpArgs false
set_option maxRecDepth 4000
open Nat renaming reduceAdd → jq, reduceMul → jj, reduceBEq → jy, reduceLeDiff → jv, reduceLT → jk, reduceEqDiff → jx
open Bool renaming or_eq_false_iff → jp, or_eq_true → jQ, and_eq_true → jJ
open Int renaming toNat_natCast → jW, natCast_nonneg → jY
open Go.Proofs.Tryz renaming prog → jV
namespace Go.Proofs.YtbkaaakphpbmiaaGreat
open Go Go.SL Go.RowKit Go.ChangeShapes Go.WideShapes Go.ChangeAt
set_option maxHeartbeats 1000000
set_option maxRecDepth 100000 in
theorem FnExactAfterReading_fn (a0:DHarbour) (a1:Int) (a2:Int) (a3:Int) (h:Hp) (oa0:Enc.ok h a0) (oa1:Enc.ok h a1) (oa2:Enc.ok h a2) (oa3:Enc.ok h a3):Ct jV 8 [.agg #[.int .i64 a0.forecast.tide.mean,a0.forecast.tide.parts.val,a0.forecast.surges.val,a0.chart.points.val,a0.chart.segments.val,a0.fleet.val,.int .i64 a0.regime.gap,.bool a0.regime.noMeet,.int .i64 a0.crew.tugs,.int .i64 a0.crew.pilots,.int .i64 a0.crew.rest,a0.crew.moves.val],.int .i64 a1,.int .i64 a2,.int .i64 a3] h fun v h'=>v=.bool true:=by
 refine zdn (fun A W=>by simp) Tryz.func8 rfl rfl (by simp) fun W0=>?_
 refine Wk ?_
 refine zhF (fun _=>zXV _ _ _ oa0 (by omega)) ?_
 refine Wk ?_
 refine zc9 rfl (fun c1=>?_) (fun c1=>?_)
 ·exact Wk0
 have hp0:=zOL c1
 have hn0:=zON (show (0:Int)≤1048576∧(1048576:Int)≤1048576 by omega) hp0
 have hb0:Blk.blk a0≤1048576:=by have h1:=zOO hp0;have h2:=(show (0:Int)≤1048576∧(1048576:Int)≤1048576 by omega);omega
 refine Wk ?_
 refine zkj (zYe _ _ oa0 hb0) rfl ?_
 rintro v h1 le1 ⟨s1,rfl,e1,ok1,m1⟩
 have Lh:=le1
 refine Wk ?_
 refine zkj (z2d _ _ _ _ _ ok1 oa1 oa2 oa3) rfl ?_
 rintro v h2 le2 ⟨s2,rfl,e2,ok2,m2⟩
 replace ok1:=Enc.mono (x:=s1) le2 ok1
 replace Lh:=Hp.le_trans Lh le2
 have okw:=ok2
 have Lh2:=Hp.le_refl h2
 refine Wk ?_
 refine zkj (zYe _ _ (Enc.mono (x:=a0) Lh oa0) hb0) rfl ?_
 rintro v h3 le3 ⟨s3,rfl,e3,ok3,m3⟩
 have n3_h:∀ b ∈ Foot.foot s3,h b=none:=fun b hb=>zmx Lh (m3.2.1 b hb)
 have n3_h2:∀ b ∈ Foot.foot s3,h2 b=none:=fun b hb=>zmx Lh2 (m3.2.1 b hb)
 replace ok1:=Enc.mono (x:=s1) le3 ok1
 replace Lh:=Hp.le_trans Lh le3
 replace Lh2:=Hp.le_trans Lh2 le3
 have ow3:=m3.1
 refine Wk ?_
 refine zkj (z2c _ _ _ _ _ ok3 oa1 oa2 oa3) rfl ?_
 rintro v h4 le4 ⟨s4,rfl,e4,ok4,m4⟩
 have d4_3:∀ b ∈ Foot.foot s4,¬ (b ∈ Foot.foot s3):=fun b hb hu=>Foot.dom (x:=s3) ow3 b hu (m4.2.1 b hb)
 have n4_h:∀ b ∈ Foot.foot s4,h b=none:=fun b hb=>zmx Lh (m4.2.1 b hb)
 have n4_h2:∀ b ∈ Foot.foot s4,h2 b=none:=fun b hb=>zmx Lh2 (m4.2.1 b hb)
 replace ow3:=zPF (x:=s3) le4 ok3 ow3
 replace ok3:=Enc.mono (x:=s3) le4 ok3
 replace ok1:=Enc.mono (x:=s1) le4 ok1
 replace Lh:=Hp.le_trans Lh le4
 replace Lh2:=Hp.le_trans Lh2 le4
 have ow4:=m4.1
 refine Wk ?_
 refine zhF (fun _=>zYA _ _ _ ok4 (Enc.mono (x:=s2) Lh2 ok2)) ?_
 refine Wk ?_
 refine zc9 rfl (fun c2=>?_) (fun c2=>?_)
 ·simp only [jQ] at c2
  rcases c2 with c2|c2
  ·(rw [Bool.not_eq_true'] at c2;exact (of_decide_eq_false c2 (by simp only [e1,e2,e3,e4])).elim)
  ·(exact absurd (by simp only [e1,e2,e3,e4]) (zjD c2))
 refine Wk ?_
 refine ziV rfl ?_
 refine zi3 [0,1] rfl (by kernel_rfl) ?_
 refine Evs ?_
 refine ziT [2] (by kernel_rfl) (by kernel_rfl) ?_
 refine Evs ?_
 refine zkj (zYe _ _ (Enc.mono (x:=a0) Lh oa0) hb0) rfl ?_
 rintro v h5 le5 ⟨s5,rfl,e5,ok5,m5⟩
 replace ow3:=zPF (x:=s3) le5 ok3 ow3
 replace ok3:=Enc.mono (x:=s3) le5 ok3
 replace ow4:=zPF (x:=s4) le5 ok4 ow4
 replace ok4:=Enc.mono (x:=s4) le5 ok4
 replace ok1:=Enc.mono (x:=s1) le5 ok1
 replace Lh:=Hp.le_trans Lh le5
 replace Lh2:=Hp.le_trans Lh2 le5
 refine Evs ?_
 refine ziT [3] (by kernel_rfl) (by kernel_rfl) ?_
 refine Evs ?_
 refine zhF (fun _=>zYA _ _ _ ok3 ok5) ?_
 refine Evs ?_
 refine zi3 [4] rfl (by kernel_rfl) ?_
 refine Evs ?_
 refine ziU (by kernel_rfl) ?_
 refine Wk ?_
 refine zc9 rfl (fun c3=>?_) (fun c3=>?_)
 ·(rw [Bool.not_eq_true'] at c3;exact (of_decide_eq_false c3 (by simp only [e1,e2,e3,e4,e5])).elim)
 refine zc5 ?_
 refine Evs ?_
 refine zie rfl ?_
 refine Evs ?_
 refine zlr [0,0,1] rfl ?_
 refine Evs ?_
 have cn6:zPB s3≤6 * 1048576:=zPY rfl (zPE e3 hb0)
 refine zli (x:=⟨jV,W0,h,_⟩) (zYV s3 (1:Int) _ ok3 ow3 m3.2.2 (by omega)) rfl (fun b hb=>⟨Foot.dom (x:=s3) ow3 b hb,.inl (n3_h b hb)⟩) ?_
 rintro v h6 kp6 ⟨rfl,ok6,ow6⟩
 replace ow4:=(ok_keep (x:=s4) ok4 ow4 d4_3 kp6)
 have ok4':=ow4.1
 clear ok4
 have ok4:=ok4'
 clear ok4'
 replace ow4:=ow4.2
 replace Lh:=zPG Lh n3_h kp6
 replace Lh2:=zPG Lh2 n3_h2 kp6
 refine Evs ?_
 refine Wk ?_
 refine zhF (fun _=>zYA _ _ _ ok4 (Enc.mono (x:=s2) Lh2 ok2)) ?_
 refine Wk ?_
 refine zc9 rfl (fun c4=>?_) (fun c4=>?_)
 ·simp only [jQ] at c4
  rcases c4 with (c4|c4)|c4
  ·(exact absurd (of_decide_eq_true c4) (by omega))
  ·(rw [Bool.not_eq_true'] at c4;exact (of_decide_eq_false c4 (by simp only [e1,e2,e3,e4,e5])).elim)
  ·(exact absurd (by simp only [e1,e2,e3,e4,e5]) (zjD c4))
 refine zc5 ?_
 refine Evs ?_
 refine zie rfl ?_
 refine Evs ?_
 refine zlr [0,0,1] rfl ?_
 refine Evs ?_
 have cn7:zPB s4≤6 * 1048576:=zPY e4 (z2e _ _ _ _)
 refine zli (x:=⟨jV,W0,h,_⟩) (zYV s4 (1:Int) _ ok4 ow4 m4.2.2 (by omega)) rfl (fun b hb=>⟨Foot.dom (x:=s4) ow4 b hb,.inl (n4_h b hb)⟩) ?_
 rintro v h7 kp7 ⟨rfl,ok7,ow7⟩
 replace ow6:=(ok_keep (x:=(zPA s3 (1:Int))) ok6 ow6 (fun b hb hu=>d4_3 b hu (by first|exact hb|(rw [MkOk.foot] at hb;exact hb)|(rw [zPW] at hb;exact hb))) kp7)
 have ok6':=ow6.1
 clear ok6
 have ok6:=ok6'
 clear ok6'
 replace ow6:=ow6.2
 replace Lh:=zPG Lh n4_h kp7
 replace Lh2:=zPG Lh2 n4_h2 kp7
 refine Evs ?_
 refine Wk ?_
 have hh1:=z11 (zPA s4 (1:Int)) 1 h7 ok7 (z1R s4 1) (by have h0:=cn7;have h1:=z1Q s4 (1:Int);(try rw [h1]);omega)
 rw [show (zPA s4 (1:Int)).v=(s4).v from by simp only [zPA,DHarbour.v,zPw,zPu,zPy,zPs,zPI]] at hh1
 refine zhF (fun _=>hh1) ?_
 refine Wk ?_
 refine zc9 rfl (fun c5=>?_) (fun c5=>?_)
 ·(exact absurd (of_decide_eq_true c5) (by omega))
 refine Wk ?_
 refine zc9 rfl (fun c6=>?_) (fun c6=>?_)
 ·(exact absurd (by first|rfl|rw [MkOk.cnt]|(simp only [MkOk.cnt])|(simp only [z1Q])) (zjD c6))
 refine Wk ?_
 refine zkj (zYe _ _ (Enc.mono (x:=a0) Lh oa0) hb0) rfl ?_
 rintro v h8 le8 ⟨s8,rfl,e8,ok8,m8⟩
 replace ow6:=zPF (x:=(zPA s3 (1:Int))) le8 ok6 ow6
 replace ok6:=Enc.mono (x:=(zPA s3 (1:Int))) le8 ok6
 replace ow7:=zPF (x:=(zPA s4 (1:Int))) le8 ok7 ow7
 replace ok7:=Enc.mono (x:=(zPA s4 (1:Int))) le8 ok7
 replace Lh:=Hp.le_trans Lh le8
 replace Lh2:=Hp.le_trans Lh2 le8
 refine Wk ?_
 refine zkj (z2c _ _ _ _ _ ok8 oa1 oa2 oa3) rfl ?_
 rintro v h9 le9 ⟨s9,rfl,e9,ok9,m9⟩
 replace ow6:=zPF (x:=(zPA s3 (1:Int))) le9 ok6 ow6
 replace ok6:=Enc.mono (x:=(zPA s3 (1:Int))) le9 ok6
 replace ow7:=zPF (x:=(zPA s4 (1:Int))) le9 ok7 ow7
 replace ok7:=Enc.mono (x:=(zPA s4 (1:Int))) le9 ok7
 replace ok8:=Enc.mono (x:=s8) le9 ok8
 replace Lh:=Hp.le_trans Lh le9
 replace Lh2:=Hp.le_trans Lh2 le9
 refine Wk ?_
 refine zhF (fun _=>zYA _ _ _ ok9 (Enc.mono (x:=s2) Lh2 ok2)) ?_
 refine Wk ?_
 refine zc9 rfl (fun c7=>?_) (fun c7=>?_)
 ·simp only [jQ] at c7
  rcases c7 with c7|c7
  ·(rw [Bool.not_eq_true'] at c7;exact (of_decide_eq_false c7 (by simp only [e1,e2,e3,e4,e5,e8,e9])).elim)
  ·(exact absurd (by simp only [e1,e2,e3,e4,e5,e8,e9]) (zjD c7))
 refine Wk ?_
 have hh2:=z11 (zPA s4 (1:Int)) 1 h9 ok7 (z1R s4 1) (by have h0:=cn7;have h1:=z1Q s4 (1:Int);(try rw [h1]);omega)
 rw [show (zPA s4 (1:Int)).v=(s4).v from by simp only [zPA,DHarbour.v,zPw,zPu,zPy,zPs,zPI]] at hh2
 refine zhF (fun _=>hh2) ?_
 refine Wk ?_
 refine zc9 rfl (fun c8=>?_) (fun c8=>?_)
 ·(exact absurd (of_decide_eq_true c8) (by omega))
 refine Wk ?_
 refine zc9 rfl (fun c9=>?_) (fun c9=>?_)
 ·(exact absurd (by first|rfl|rw [MkOk.cnt]|(simp only [MkOk.cnt])|(simp only [z1Q])) (zjD c9))
 exact Wk0
set_option maxRecDepth 100000 in
theorem z2f (os:Os) (started:os.Started) (H:Type) (enc:TypeId × Value→H) :
  ReturnsInHanded {} Tryz.checked os 8 .any (Rows.fnExactAfterReadingSpec.pre6 enc jV Tryz.f8 Rows.fnExactAfterReadingRow.domain false) (Rows.fnExactAfterReadingSpec.post enc jV Tryz.f8 false true false false):=by
 refine returnsInHanded_of_change (C:=Tryz.checked) Tryz.own started (by kernel_rfl) Tryz.func8
  (ChangeSpec.witness6 (enc:=enc) (C:=Tryz.checked) false ⟨#[],#[.agg #[.int .i64 0,.slice none 0 0,.slice none 0 0,.slice none 0 0,.slice none 0 0,.slice none 0 0,.int .i64 0,.bool false,.int .i64 0,.int .i64 0,.int .i64 0,.slice none 0 0],.int .i64 0,.int .i64 0,.int .i64 0],[]⟩ 8 (by kernel_rfl) (by kernel_rfl) (by kernel_rfl) (by kernel_rfl)) ?_
 intro W base args ds gs before hval0 hW hcnd _
 have hval:∀ (j:Nat) t v,Tryz.f8.params[j]?=some t→args[j]?=some v→Value.okWide jV W .any base t v:=hval0
 have hW':=hW
 obtain ⟨p,q,hA0,hV,rfl,hfz,hnd⟩:=hW
 have hA:DataW.TrodAll enc jV W 0 (fun _=>true) true Tryz.f8.params.toList args.toList ds p:=hA0
 rw [Tryz.params8] at hA hval
 obtain ⟨args⟩:=args
 obtain ⟨rfl,rfl⟩:=trodVars_none hV
 have hA9:=hA
 obtain ⟨v0,vs0,d0,ds0,p0,q0,ev0,rfl,rfl,k0,r0⟩:=trodAll_cons hA
 obtain ⟨v1,vs1,d1,ds1,p1,q1,ev1,rfl,rfl,k1,r1⟩:=trodAll_cons r0
 obtain ⟨v2,vs2,d2,ds2,p2,q2,ev2,rfl,rfl,k2,r2⟩:=trodAll_cons r1
 obtain ⟨v3,vs3,d3,ds3,p3,q3,ev3,rfl,rfl,k3,r3⟩:=trodAll_cons r2
 obtain ⟨ev4,rfl,rfl⟩:=trodAll_nil r3
 simp only at ev0 ev1 ev2 ev3 ev4
 subst ev4
 subst ev3
 subst ev2
 subst ev1
 subst ev0
 obtain ⟨a0,rfl,oa0⟩:=zOY Tryz.underlying39 z1w (hval 0 _ v0 rfl rfl) k0
 obtain ⟨a1,rfl,oa1⟩:=zOZ Tryz.underlying3 (hval 1 _ v1 rfl rfl) k1
 obtain ⟨a2,rfl,oa2⟩:=zOZ Tryz.underlying3 (hval 2 _ v2 rfl rfl) k2
 obtain ⟨a3,rfl,oa3⟩:=zOZ Tryz.underlying3 (hval 3 _ v3 rfl rfl) k3
 simp only [List.append_nil] at hW' hA9
 have hct:=FnExactAfterReading_fn a0 a1 a2 a3 (vw W) oa0 oa1 oa2 oa3
 unfold Ct at hct
 refine (hct.2 W (zkk W)).mono fun e W' ⟨v,h',he,hv,hb,_⟩=>?_
 subst he hv
 have hlt:∀ x ∈ (p0 ++ (p1 ++ (p2 ++ (p3)))),x.block < W.heap.size:=fun x hx=>hW'.lt x hx
 exact ⟨_,rfl,zko hW' hb (fun _=>rfl) (fun _ _ _=>trodAll_mk1 (shut_bool Tryz.underlying4 true))
  (fun sp hsp=>zlg Tryz.laidOut hb (by kernel_rfl) hlt hsp hA9)⟩
set_option maxRecDepth 100000 in
set_option maxHeartbeats 200000000 in
theorem z2g:joinedFacts Tryz.pinned.checked.prog 8 Tryz.f8 Rows.fnExactAfterReadingSpec Rows.fnExactAfterReadingRow=true:=by
 unfold joinedFacts
 repeat' (rw [jJ];constructor)
 all_goals (as_aux_lemma=>kernel_rfl)
set_option maxRecDepth 100000 in
theorem FnExactAfterReading_holds:Rows.FnExactAfterReadingSaid :=
 OpenClaim.holds_of_wide 8 Tryz.f8 rfl rfl rfl rfl rfl rfl rfl ⟨rfl,rfl,rfl,rfl,rfl⟩ rfl rfl rfl rfl rfl (by as_aux_lemma=>kernel_rfl) Tryz.func8 z2g
  (of_decide_eq_true (by as_aux_lemma=>kernel_rfl)) (by unfold Func.isWrapper;rw [if_neg (of_decide_eq_false (by as_aux_lemma=>kernel_rfl))];exact ⟨rfl,rfl⟩)
  (fun os started H enc _=>z2f os started H enc)
end Go.Proofs.YtbkaaakphpbmiaaGreat
