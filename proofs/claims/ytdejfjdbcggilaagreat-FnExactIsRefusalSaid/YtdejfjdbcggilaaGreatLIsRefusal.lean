/- The walk of a law of the given program, and the law itself as it is stated: it holds of every input. No condition. -/
import Derived.Test.YtdejfjdbcggilaaGreatRows
import Derived.Test.YtdejfjdbcggilaaGreatXIsRefusal24
set_option linter.unusedVariables false
set_option linter.unusedSimpArgs false
set_option maxRecDepth 4000
open Nat renaming reduceAdd → jq, reduceMul → jj, reduceBEq → jy, reduceLeDiff → jv, reduceLT → jk, reduceEqDiff → jx
open Bool renaming or_eq_false_iff → jp, or_eq_true → jQ, and_eq_true → jJ
open Int renaming toNat_natCast → jW, natCast_nonneg → jY
open Go.Proofs.Tryz renaming prog → jV
namespace Go.Proofs.YtdejfjdbcggilaaGreat
open Go Go.SL Go.RowKit Go.ChangeShapes Go.WideShapes Go.ChangeAt
set_option maxHeartbeats 1000000
set_option maxRecDepth 100000 in
theorem FnExactIsRefusal_fn (a0:DHarbour) (a1:Sl DCall) (a2:Sl Int) (h:Hp) (oa0:Enc.ok h a0) (oa1:Enc.ok h a1) (oa2:Enc.ok h a2):Ct jV 5 [.agg #[.int .i64 a0.forecast.tide.mean,a0.forecast.tide.parts.val,a0.forecast.surges.val,a0.chart.points.val,a0.chart.segments.val,a0.fleet.val,.int .i64 a0.regime.gap,.bool a0.regime.noMeet,.int .i64 a0.crew.tugs,.int .i64 a0.crew.pilots,.int .i64 a0.crew.rest,a0.crew.moves.val],a1.val,a2.val] h fun v h'=>v=.bool true:=by
 refine zdn (fun A W=>by simp) Tryz.func5 rfl rfl (by simp) fun W0=>?_
 refine Wk ?_
 refine zc9 rfl (fun c1=>?_) (fun c1=>?_)
 ·exact Wk0
 have hb2:Blk.blk a2≤1048576:=by
  rw [zkC (fun _=>rfl)]
  have:=of_decide_eq_false c1
  omega
 refine Wk ?_
 refine zhF (fun _=>zxo _ _ _ oa0 (by omega)) ?_
 refine Wk ?_
 refine zc9 rfl (fun c2=>?_) (fun c2=>?_)
 ·exact Wk0
 have hp0:=zkF c2
 have hn0:=zkH (show (0:Int)≤1048576∧(1048576:Int)≤1048576 by omega) hp0
 have hb0:Blk.blk a0≤1048576:=by have h1:=zkI hp0;have h2:=(show (0:Int)≤1048576∧(1048576:Int)≤1048576 by omega);omega
 refine Wk ?_
 refine zhF (fun _=>zxe _ _ _ oa1 hn0) ?_
 refine Wk ?_
 refine zc9 rfl (fun c3=>?_) (fun c3=>?_)
 ·exact Wk0
 have hp1:=zkF c3
 have hn1:=zkH hn0 hp1
 have hb1:Blk.blk a1≤1048576:=by have h1:=zkI hp1;have h2:=hn0;omega
 refine Wk ?_
 refine zkr (zxH _ _ oa0 hb0) rfl ?_
 rintro v h1 le1 ⟨s1,rfl,e1,ok1,m1⟩
 have Lh:=le1
 refine Wk ?_
 refine zkr (zxx _ _ (Enc.mono (x:=a1) Lh oa1) hb1) rfl ?_
 rintro v h2 le2 ⟨s2,rfl,e2,ok2,m2⟩
 replace ok1:=Enc.mono (x:=s1) le2 ok1
 replace Lh:=Hp.le_trans Lh le2
 refine Wk ?_
 refine zkr (zxq _ _ (Enc.mono (x:=a2) Lh oa2) hb2) rfl ?_
 rintro v h3 le3 ⟨s3,rfl,e3,ok3,m3⟩
 replace ok1:=Enc.mono (x:=s1) le3 ok1
 replace ok2:=Enc.mono (x:=s2) le3 ok2
 replace Lh:=Hp.le_trans Lh le3
 refine Wk ?_
 refine zhF (fun _=>zOo _ _ _ _ ok1 ok2 ok3 (znz e3 hb2)) ?_
 refine Wk ?_
 refine zkr (zxH _ _ (Enc.mono (x:=a0) Lh oa0) hb0) rfl ?_
 rintro v h4 le4 ⟨s4,rfl,e4,ok4,m4⟩
 have n4_h:∀ b ∈ Foot.foot s4,h b=none:=fun b hb=>znC Lh (m4.2.1 b hb)
 replace ok1:=Enc.mono (x:=s1) le4 ok1
 replace ok2:=Enc.mono (x:=s2) le4 ok2
 replace ok3:=Enc.mono (x:=s3) le4 ok3
 replace Lh:=Hp.le_trans Lh le4
 have ow4:=m4.1
 refine Wk ?_
 refine zkr (zxx _ _ (Enc.mono (x:=a1) Lh oa1) hb1) rfl ?_
 rintro v h5 le5 ⟨s5,rfl,e5,ok5,m5⟩
 have d5_4:∀ b ∈ Foot.foot s5,¬ (b ∈ Foot.foot s4):=fun b hb hu=>Foot.dom (x:=s4) ow4 b hu (m5.2.1 b hb)
 have n5_h:∀ b ∈ Foot.foot s5,h b=none:=fun b hb=>znC Lh (m5.2.1 b hb)
 replace ow4:=znD (x:=s4) le5 ok4 ow4
 replace ok4:=Enc.mono (x:=s4) le5 ok4
 replace ok1:=Enc.mono (x:=s1) le5 ok1
 replace ok2:=Enc.mono (x:=s2) le5 ok2
 replace ok3:=Enc.mono (x:=s3) le5 ok3
 replace Lh:=Hp.le_trans Lh le5
 have ow5:=m5.1
 refine Wk ?_
 refine zkr (zxq _ _ (Enc.mono (x:=a2) Lh oa2) hb2) rfl ?_
 rintro v h6 le6 ⟨s6,rfl,e6,ok6,m6⟩
 have d6_4:∀ b ∈ Foot.foot s6,¬ (b ∈ Foot.foot s4):=fun b hb hu=>Foot.dom (x:=s4) ow4 b hu (m6.2.1 b hb)
 have d6_5:∀ b ∈ Foot.foot s6,¬ (b ∈ Foot.foot s5):=fun b hb hu=>Foot.dom (x:=s5) ow5 b hu (m6.2.1 b hb)
 have n6_h:∀ b ∈ Foot.foot s6,h b=none:=fun b hb=>znC Lh (m6.2.1 b hb)
 replace ow4:=znD (x:=s4) le6 ok4 ow4
 replace ok4:=Enc.mono (x:=s4) le6 ok4
 replace ow5:=znD (x:=s5) le6 ok5 ow5
 replace ok5:=Enc.mono (x:=s5) le6 ok5
 replace ok1:=Enc.mono (x:=s1) le6 ok1
 replace ok2:=Enc.mono (x:=s2) le6 ok2
 replace ok3:=Enc.mono (x:=s3) le6 ok3
 replace Lh:=Hp.le_trans Lh le6
 have ow6:=m6.1
 refine Wk ?_
 refine zhF (fun _=>zOm _ _ _ _ ok4 ok5 ok6 (znz e6 hb2)) ?_
 refine Wk ?_
 refine zc9 rfl (fun c4=>?_) (fun c4=>?_)
 ·(exact absurd (by simp only [e1,e2,e3,e4,e5,e6]) (zjD c4))
 refine Wk ?_
 refine ziV rfl ?_
 refine zi3 [0,1] rfl (by kernel_rfl) ?_
 refine Evs ?_
 refine ziT [2] (by kernel_rfl) (by kernel_rfl) ?_
 refine Evs ?_
 refine zkr (zxH _ _ (Enc.mono (x:=a0) Lh oa0) hb0) rfl ?_
 rintro v h7 le7 ⟨s7,rfl,e7,ok7,m7⟩
 replace ow4:=znD (x:=s4) le7 ok4 ow4
 replace ok4:=Enc.mono (x:=s4) le7 ok4
 replace ow5:=znD (x:=s5) le7 ok5 ow5
 replace ok5:=Enc.mono (x:=s5) le7 ok5
 replace ow6:=znD (x:=s6) le7 ok6 ow6
 replace ok6:=Enc.mono (x:=s6) le7 ok6
 replace ok1:=Enc.mono (x:=s1) le7 ok1
 replace ok2:=Enc.mono (x:=s2) le7 ok2
 replace ok3:=Enc.mono (x:=s3) le7 ok3
 replace Lh:=Hp.le_trans Lh le7
 refine Evs ?_
 refine ziT [3] (by kernel_rfl) (by kernel_rfl) ?_
 refine Evs ?_
 refine zhF (fun _=>zx0 _ _ _ ok4 ok7) ?_
 refine Evs ?_
 refine zi3 [4] rfl (by kernel_rfl) ?_
 refine Evs ?_
 refine ziU (by kernel_rfl) ?_
 refine Wk ?_
 refine zc9 rfl (fun c5=>?_) (fun c5=>?_)
 ·(rw [Bool.not_eq_true'] at c5;exact (of_decide_eq_false c5 (by simp only [e1,e2,e3,e4,e5,e6,e7])).elim)
 refine Wk ?_
 refine zkr (zxx _ _ (Enc.mono (x:=a1) Lh oa1) hb1) rfl ?_
 rintro v h8 le8 ⟨s8,rfl,e8,ok8,m8⟩
 replace ow4:=znD (x:=s4) le8 ok4 ow4
 replace ok4:=Enc.mono (x:=s4) le8 ok4
 replace ow5:=znD (x:=s5) le8 ok5 ow5
 replace ok5:=Enc.mono (x:=s5) le8 ok5
 replace ow6:=znD (x:=s6) le8 ok6 ow6
 replace ok6:=Enc.mono (x:=s6) le8 ok6
 replace ok1:=Enc.mono (x:=s1) le8 ok1
 replace ok2:=Enc.mono (x:=s2) le8 ok2
 replace ok3:=Enc.mono (x:=s3) le8 ok3
 replace ok7:=Enc.mono (x:=s7) le8 ok7
 replace Lh:=Hp.le_trans Lh le8
 refine Wk ?_
 refine zhF (fun _=>zxQ _ _ _ ok5 ok8) ?_
 refine Wk ?_
 refine zc9 rfl (fun c6=>?_) (fun c6=>?_)
 ·(rw [Bool.not_eq_true'] at c6;exact (of_decide_eq_false c6 (by simp only [e1,e2,e3,e4,e5,e6,e7,e8])).elim)
 refine Wk ?_
 refine zkr (zxq _ _ (Enc.mono (x:=a2) Lh oa2) hb2) rfl ?_
 rintro v h9 le9 ⟨s9,rfl,e9,ok9,m9⟩
 replace ow4:=znD (x:=s4) le9 ok4 ow4
 replace ok4:=Enc.mono (x:=s4) le9 ok4
 replace ow5:=znD (x:=s5) le9 ok5 ow5
 replace ok5:=Enc.mono (x:=s5) le9 ok5
 replace ow6:=znD (x:=s6) le9 ok6 ow6
 replace ok6:=Enc.mono (x:=s6) le9 ok6
 replace ok1:=Enc.mono (x:=s1) le9 ok1
 replace ok2:=Enc.mono (x:=s2) le9 ok2
 replace ok3:=Enc.mono (x:=s3) le9 ok3
 replace ok7:=Enc.mono (x:=s7) le9 ok7
 replace ok8:=Enc.mono (x:=s8) le9 ok8
 replace Lh:=Hp.le_trans Lh le9
 refine Wk ?_
 refine zhF (fun _=>zxJ _ _ _ ok6 ok9) ?_
 refine Wk ?_
 refine zc9 rfl (fun c7=>?_) (fun c7=>?_)
 ·(rw [Bool.not_eq_true'] at c7;exact (of_decide_eq_false c7 (by simp only [e1,e2,e3,e4,e5,e6,e7,e8,e9])).elim)
 exact Wk0
set_option maxRecDepth 100000 in
theorem zOp (os:Os) (started:os.Started) (H:Type) (enc:TypeId × Value→H) :
  ReturnsInHanded {} Tryz.checked os 5 .any (Rows.fnExactIsRefusalSpec.pre6 enc jV Tryz.f5 Rows.fnExactIsRefusalRow.domain false) (Rows.fnExactIsRefusalSpec.post enc jV Tryz.f5 false true false false):=by
 refine returnsInHanded_of_change (C:=Tryz.checked) Tryz.own started (by kernel_rfl) Tryz.func5
  (ChangeSpec.witness6 (enc:=enc) (C:=Tryz.checked) false ⟨#[],#[.agg #[.int .i64 0,.slice none 0 0,.slice none 0 0,.slice none 0 0,.slice none 0 0,.slice none 0 0,.int .i64 0,.bool false,.int .i64 0,.int .i64 0,.int .i64 0,.slice none 0 0],.slice none 0 0,.slice none 0 0],[]⟩ 8 (by kernel_rfl) (by kernel_rfl) (by kernel_rfl) (by kernel_rfl)) ?_
 intro W base args ds gs before hval0 hW hcnd _
 have hval:∀ (j:Nat) t v,Tryz.f5.params[j]?=some t→args[j]?=some v→Value.okWide jV W .any base t v:=hval0
 have hW':=hW
 obtain ⟨p,q,hA0,hV,rfl,hfz,hnd⟩:=hW
 have hA:DataW.TrodAll enc jV W 0 (fun _=>true) true Tryz.f5.params.toList args.toList ds p:=hA0
 rw [Tryz.params5] at hA hval
 obtain ⟨args⟩:=args
 obtain ⟨rfl,rfl⟩:=trodVars_none hV
 have hA9:=hA
 obtain ⟨v0,vs0,d0,ds0,p0,q0,ev0,rfl,rfl,k0,r0⟩:=trodAll_cons hA
 obtain ⟨v1,vs1,d1,ds1,p1,q1,ev1,rfl,rfl,k1,r1⟩:=trodAll_cons r0
 obtain ⟨v2,vs2,d2,ds2,p2,q2,ev2,rfl,rfl,k2,r2⟩:=trodAll_cons r1
 obtain ⟨ev3,rfl,rfl⟩:=trodAll_nil r2
 simp only at ev0 ev1 ev2 ev3
 subst ev3
 subst ev2
 subst ev1
 subst ev0
 obtain ⟨a0,rfl,oa0⟩:=zlG Tryz.underlying39 zMU (hval 0 _ v0 rfl rfl) k0
 obtain ⟨a1,rfl,oa1⟩:=zlF Tryz.underlying40 zMD (hval 1 _ v1 rfl rfl) k1
 obtain ⟨a2,rfl,oa2⟩:=zlF Tryz.underlying35 opens_IntS (hval 2 _ v2 rfl rfl) k2
 simp only [List.append_nil] at hW' hA9
 have hct:=FnExactIsRefusal_fn a0 a1 a2 (vw W) oa0 oa1 oa2
 unfold Ct at hct
 refine (hct.2 W (zks W)).mono fun e W' ⟨v,h',he,hv,hb,_⟩=>?_
 subst he hv
 have hlt:∀ x ∈ (p0 ++ (p1 ++ (p2))),x.block < W.heap.size:=fun x hx=>hW'.lt x hx
 exact ⟨_,rfl,zky hW' hb (fun _=>rfl) (fun _ _ _=>trodAll_mk1 (shut_bool Tryz.underlying4 true))
  (fun sp hsp=>zlH Tryz.laidOut hb (by kernel_rfl) hlt hsp hA9)⟩
set_option maxRecDepth 100000 in
set_option maxHeartbeats 200000000 in
theorem zOq:joinedFacts Tryz.pinned.checked.prog 5 Tryz.f5 Rows.fnExactIsRefusalSpec Rows.fnExactIsRefusalRow=true:=by
 unfold joinedFacts
 repeat' (rw [jJ];constructor)
 all_goals (as_aux_lemma=>kernel_rfl)
set_option maxRecDepth 100000 in
theorem FnExactIsRefusal_holds:Rows.FnExactIsRefusalSaid :=
 OpenClaim.holds_of_wide 5 Tryz.f5 rfl rfl rfl rfl rfl rfl rfl ⟨rfl,rfl,rfl,rfl,rfl⟩ rfl rfl rfl rfl rfl (by as_aux_lemma=>kernel_rfl) Tryz.func5 zOq
  (of_decide_eq_true (by as_aux_lemma=>kernel_rfl)) (by unfold Func.isWrapper;rw [if_neg (of_decide_eq_false (by as_aux_lemma=>kernel_rfl))];exact ⟨rfl,rfl⟩)
  (fun os started H enc _=>zOp os started H enc)
end Go.Proofs.YtdejfjdbcggilaaGreat
