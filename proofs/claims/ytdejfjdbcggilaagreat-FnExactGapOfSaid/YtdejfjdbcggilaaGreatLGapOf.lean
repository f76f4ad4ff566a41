/- The walk of a law of the given program, and the law itself as it is stated: it holds of every input. No condition. -/
import Derived.Test.YtdejfjdbcggilaaGreatRows
import Derived.Test.YtdejfjdbcggilaaGreatXGBestMates20
set_option linter.unusedVariables false
set_option linter.unusedSimpArgs false
set_option maxRecDepth 4000
open Nat renaming reduceAdd → jq, reduceMul → jj, reduceBEq → jy, reduceLeDiff → jv, reduceLT → jk, reduceEqDiff → jx
open Bool renaming or_eq_false_iff → jp, or_eq_true → jQ, and_eq_true → jJ
open Int renaming toNat_natCast → jW, natCast_nonneg → jY
open Go.Proofs.Tryz renaming prog → jV
namespace Go.Proofs.YtdejfjdbcggilaaGreat
open Go Go.SL Go.RowKit Go.ChangeShapes Go.WideShapes Go.ChangeAt
set_option maxHeartbeats 1000000
set_option maxRecDepth 100000 in
theorem FnExactGapOf_fn (a0:DHarbour) (a1:Sl DCall) (h:Hp) (oa0:Enc.ok h a0) (oa1:Enc.ok h a1):Ct jV 7 [.agg #[.int .i64 a0.forecast.tide.mean,a0.forecast.tide.parts.val,a0.forecast.surges.val,a0.chart.points.val,a0.chart.segments.val,a0.fleet.val,.int .i64 a0.regime.gap,.bool a0.regime.noMeet,.int .i64 a0.crew.tugs,.int .i64 a0.crew.pilots,.int .i64 a0.crew.rest,a0.crew.moves.val],a1.val] h fun v h'=>v=.bool true:=by
 refine zdn (fun A W=>by simp) Tryz.func7 rfl rfl (by simp) fun W0=>?_
 refine Wk ?_
 refine zhF (fun _=>zxo _ _ _ oa0 (by omega)) ?_
 refine Wk ?_
 refine zc9 rfl (fun c1=>?_) (fun c1=>?_)
 ·exact Wk0
 have hp0:=zkF c1
 have hn0:=zkH (show (0:Int)≤1048576∧(1048576:Int)≤1048576 by omega) hp0
 have hb0:Blk.blk a0≤1048576:=by have h1:=zkI hp0;have h2:=(show (0:Int)≤1048576∧(1048576:Int)≤1048576 by omega);omega
 refine Wk ?_
 refine zhF (fun _=>zxe _ _ _ oa1 hn0) ?_
 refine Wk ?_
 refine zc9 rfl (fun c2=>?_) (fun c2=>?_)
 ·exact Wk0
 have hp1:=zkF c2
 have hn1:=zkH hn0 hp1
 have hb1:Blk.blk a1≤1048576:=by have h1:=zkI hp1;have h2:=hn0;omega
 refine Wk ?_
 refine zkr (zxH _ _ oa0 hb0) rfl ?_
 rintro v h1 le1 ⟨s1,rfl,e1,ok1,m1⟩
 have Lh:=le1
 refine Wk ?_
 refine zkr (zxx _ _ (Enc.mono (x:=a1) Lh oa1) hb1) rfl ?_
 rintro v h2 le2 ⟨s2,rfl,e2,ok2,m2⟩
 replace ok1:=Enc.mono (x:=s1) le2 ok1
 replace Lh:=Hp.le_trans Lh le2
 refine Wk ?_
 refine zhF (fun _=>zN8 _ _ _ ok1 ok2) ?_
 refine Wk ?_
 refine zkr (zxH _ _ (Enc.mono (x:=a0) Lh oa0) hb0) rfl ?_
 rintro v h3 le3 ⟨s3,rfl,e3,ok3,m3⟩
 have n3_h:∀ b ∈ Foot.foot s3,h b=none:=fun b hb=>znC Lh (m3.2.1 b hb)
 replace ok1:=Enc.mono (x:=s1) le3 ok1
 replace ok2:=Enc.mono (x:=s2) le3 ok2
 replace Lh:=Hp.le_trans Lh le3
 have ow3:=m3.1
 refine Wk ?_
 refine zkr (zxx _ _ (Enc.mono (x:=a1) Lh oa1) hb1) rfl ?_
 rintro v h4 le4 ⟨s4,rfl,e4,ok4,m4⟩
 have d4_3:∀ b ∈ Foot.foot s4,¬ (b ∈ Foot.foot s3):=fun b hb hu=>Foot.dom (x:=s3) ow3 b hu (m4.2.1 b hb)
 have n4_h:∀ b ∈ Foot.foot s4,h b=none:=fun b hb=>znC Lh (m4.2.1 b hb)
 replace ow3:=znD (x:=s3) le4 ok3 ow3
 replace ok3:=Enc.mono (x:=s3) le4 ok3
 replace ok1:=Enc.mono (x:=s1) le4 ok1
 replace ok2:=Enc.mono (x:=s2) le4 ok2
 replace Lh:=Hp.le_trans Lh le4
 have ow4:=m4.1
 refine Wk ?_
 refine zhF (fun _=>zN7 _ _ _ ok3 ok4) ?_
 refine Wk ?_
 refine zc9 rfl (fun c3=>?_) (fun c3=>?_)
 ·(exact absurd (by simp only [e1,e2,e3,e4]) (zjD c3))
 refine Wk ?_
 refine ziV rfl ?_
 refine zi3 [0,1] rfl (by kernel_rfl) ?_
 refine Evs ?_
 refine ziT [2] (by kernel_rfl) (by kernel_rfl) ?_
 refine Evs ?_
 refine zkr (zxH _ _ (Enc.mono (x:=a0) Lh oa0) hb0) rfl ?_
 rintro v h5 le5 ⟨s5,rfl,e5,ok5,m5⟩
 replace ow3:=znD (x:=s3) le5 ok3 ow3
 replace ok3:=Enc.mono (x:=s3) le5 ok3
 replace ow4:=znD (x:=s4) le5 ok4 ow4
 replace ok4:=Enc.mono (x:=s4) le5 ok4
 replace ok1:=Enc.mono (x:=s1) le5 ok1
 replace ok2:=Enc.mono (x:=s2) le5 ok2
 replace Lh:=Hp.le_trans Lh le5
 refine Evs ?_
 refine ziT [3] (by kernel_rfl) (by kernel_rfl) ?_
 refine Evs ?_
 refine zhF (fun _=>zx0 _ _ _ ok3 ok5) ?_
 refine Evs ?_
 refine zi3 [4] rfl (by kernel_rfl) ?_
 refine Evs ?_
 refine ziU (by kernel_rfl) ?_
 refine Wk ?_
 refine zc9 rfl (fun c4=>?_) (fun c4=>?_)
 ·(rw [Bool.not_eq_true'] at c4;exact (of_decide_eq_false c4 (by simp only [e1,e2,e3,e4,e5])).elim)
 refine Wk ?_
 refine zkr (zxx _ _ (Enc.mono (x:=a1) Lh oa1) hb1) rfl ?_
 rintro v h6 le6 ⟨s6,rfl,e6,ok6,m6⟩
 replace ow3:=znD (x:=s3) le6 ok3 ow3
 replace ok3:=Enc.mono (x:=s3) le6 ok3
 replace ow4:=znD (x:=s4) le6 ok4 ow4
 replace ok4:=Enc.mono (x:=s4) le6 ok4
 replace ok1:=Enc.mono (x:=s1) le6 ok1
 replace ok2:=Enc.mono (x:=s2) le6 ok2
 replace ok5:=Enc.mono (x:=s5) le6 ok5
 replace Lh:=Hp.le_trans Lh le6
 refine Wk ?_
 refine zhF (fun _=>zxQ _ _ _ ok4 ok6) ?_
 refine Wk ?_
 refine zc9 rfl (fun c5=>?_) (fun c5=>?_)
 ·(rw [Bool.not_eq_true'] at c5;exact (of_decide_eq_false c5 (by simp only [e1,e2,e3,e4,e5,e6])).elim)
 exact Wk0
set_option maxRecDepth 100000 in
theorem zOd (os:Os) (started:os.Started) (H:Type) (enc:TypeId × Value→H) :
  ReturnsInHanded {} Tryz.checked os 7 .any (Rows.fnExactGapOfSpec.pre6 enc jV Tryz.f7 Rows.fnExactGapOfRow.domain false) (Rows.fnExactGapOfSpec.post enc jV Tryz.f7 false true false false):=by
 refine returnsInHanded_of_change (C:=Tryz.checked) Tryz.own started (by kernel_rfl) Tryz.func7
  (ChangeSpec.witness6 (enc:=enc) (C:=Tryz.checked) false ⟨#[],#[.agg #[.int .i64 0,.slice none 0 0,.slice none 0 0,.slice none 0 0,.slice none 0 0,.slice none 0 0,.int .i64 0,.bool false,.int .i64 0,.int .i64 0,.int .i64 0,.slice none 0 0],.slice none 0 0],[]⟩ 8 (by kernel_rfl) (by kernel_rfl) (by kernel_rfl) (by kernel_rfl)) ?_
 intro W base args ds gs before hval0 hW hcnd _
 have hval:∀ (j:Nat) t v,Tryz.f7.params[j]?=some t→args[j]?=some v→Value.okWide jV W .any base t v:=hval0
 have hW':=hW
 obtain ⟨p,q,hA0,hV,rfl,hfz,hnd⟩:=hW
 have hA:DataW.TrodAll enc jV W 0 (fun _=>true) true Tryz.f7.params.toList args.toList ds p:=hA0
 rw [Tryz.params7] at hA hval
 obtain ⟨args⟩:=args
 obtain ⟨rfl,rfl⟩:=trodVars_none hV
 have hA9:=hA
 obtain ⟨v0,vs0,d0,ds0,p0,q0,ev0,rfl,rfl,k0,r0⟩:=trodAll_cons hA
 obtain ⟨v1,vs1,d1,ds1,p1,q1,ev1,rfl,rfl,k1,r1⟩:=trodAll_cons r0
 obtain ⟨ev2,rfl,rfl⟩:=trodAll_nil r1
 simp only at ev0 ev1 ev2
 subst ev2
 subst ev1
 subst ev0
 obtain ⟨a0,rfl,oa0⟩:=zlG Tryz.underlying39 zMU (hval 0 _ v0 rfl rfl) k0
 obtain ⟨a1,rfl,oa1⟩:=zlF Tryz.underlying40 zMD (hval 1 _ v1 rfl rfl) k1
 simp only [List.append_nil] at hW' hA9
 have hct:=FnExactGapOf_fn a0 a1 (vw W) oa0 oa1
 unfold Ct at hct
 refine (hct.2 W (zks W)).mono fun e W' ⟨v,h',he,hv,hb,_⟩=>?_
 subst he hv
 have hlt:∀ x ∈ (p0 ++ (p1)),x.block < W.heap.size:=fun x hx=>hW'.lt x hx
 exact ⟨_,rfl,zky hW' hb (fun _=>rfl) (fun _ _ _=>trodAll_mk1 (shut_bool Tryz.underlying4 true))
  (fun sp hsp=>zlH Tryz.laidOut hb (by kernel_rfl) hlt hsp hA9)⟩
set_option maxRecDepth 100000 in
set_option maxHeartbeats 200000000 in
theorem zOe:joinedFacts Tryz.pinned.checked.prog 7 Tryz.f7 Rows.fnExactGapOfSpec Rows.fnExactGapOfRow=true:=by
 unfold joinedFacts
 repeat' (rw [jJ];constructor)
 all_goals (as_aux_lemma=>kernel_rfl)
set_option maxRecDepth 100000 in
theorem FnExactGapOf_holds:Rows.FnExactGapOfSaid :=
 OpenClaim.holds_of_wide 7 Tryz.f7 rfl rfl rfl rfl rfl rfl rfl ⟨rfl,rfl,rfl,rfl,rfl⟩ rfl rfl rfl rfl rfl (by as_aux_lemma=>kernel_rfl) Tryz.func7 zOe
  (of_decide_eq_true (by as_aux_lemma=>kernel_rfl)) (by unfold Func.isWrapper;rw [if_neg (of_decide_eq_false (by as_aux_lemma=>kernel_rfl))];exact ⟨rfl,rfl⟩)
  (fun os started H enc _=>zOd os started H enc)
end Go.Proofs.YtdejfjdbcggilaaGreat
