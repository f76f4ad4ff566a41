/- The walk of a law of the given program, and the law itself as it is stated: it holds of every input. No condition. -/
import Derived.Test.YtbkaaakphpbmiaaGreatRows
import Derived.Test.YtbkaaakphpbmiaaGreatXGPairFloor19
set_option linter.unusedVariables false
set_option linter.unusedSimpArgs false
open Nat renaming reduceAdd → yqa, reduceMul → yqb, reduceBEq → yqc, reduceLeDiff → yqd, reduceLT → yqe, reduceEqDiff → yqf
open Bool renaming or_eq_false_iff → yqg, or_eq_true → yqh, and_eq_true → yqi
open Int renaming toNat_natCast → yqj, natCast_nonneg → yqk
namespace Go.Proofs.YtbkaaakphpbmiaaGreat
open Go Go.SL Go.RowKit Go.ChangeShapes Go.WideShapes Go.ChangeAt
set_option maxHeartbeats 1000000
set_option maxRecDepth 100000 in
theorem FnExactPairFloor_fn (a0:DHarbour) (a1:DCall) (a2:DCall) (h:Hp) (oa0:Enc.ok h a0) (oa1:Enc.ok h a1) (oa2:Enc.ok h a2):Ct Tryz.prog 4 [.agg #[.int .i64 a0.forecast.tide.mean,a0.forecast.tide.parts.val,a0.forecast.surges.val,a0.chart.points.val,a0.chart.segments.val,a0.fleet.val,.int .i64 a0.regime.gap,.bool a0.regime.noMeet,.int .i64 a0.crew.tugs,.int .i64 a0.crew.pilots,.int .i64 a0.crew.rest,a0.crew.moves.val],.agg #[.int .i64 a1.ship,.int .i64 a1.src,.int .i64 a1.dst,.int .i64 a1.ready,.int .i64 a1.due],.agg #[.int .i64 a2.ship,.int .i64 a2.src,.int .i64 a2.dst,.int .i64 a2.ready,.int .i64 a2.due]] h fun v h'=>v=.bool true:=by
 refine zdm (fun A W=>by simp) Tryz.func4 rfl rfl (by simp) fun W0=>?_
 refine Wk ?_
 refine zhE (fun _=>zxx _ _ _ oa0 (by omega)) ?_
 refine Wk ?_
 refine zc9 rfl (fun c1=>?_) (fun c1=>?_)
 ·exact Wk0
 have hp0:=zkD c1
 have hn0:=zkF (show (0:Int)≤1048576∧(1048576:Int)≤1048576 by omega) hp0
 have hb0:Blk.blk a0≤1048576:=by have h1:=zkG hp0;have h2:=(show (0:Int)≤1048576∧(1048576:Int)≤1048576 by omega);omega
 refine Wk ?_
 refine ziU rfl ?_
 refine zi2 [0,2,4] rfl (by kernel_rfl) ?_
 refine Evs ?_
 refine ziS [1] (by kernel_rfl) (by kernel_rfl) ?_
 refine Evs ?_
 refine zko (zxQ _ _ oa0 hb0) rfl ?_
 rintro v h1 le1 ⟨s1,rfl,e1,ok1,m1⟩
 have Lh:=le1
 refine Evs ?_
 refine ziS [3] (by kernel_rfl) (by kernel_rfl) ?_
 refine Evs ?_
 refine zhE (fun _=>zxy _ _) ?_
 refine Evs ?_
 refine ziS [5] (by kernel_rfl) (by kernel_rfl) ?_
 refine Evs ?_
 refine zhE (fun _=>zxy _ _) ?_
 refine Evs ?_
 refine ziS [6] (by kernel_rfl) (by kernel_rfl) ?_
 refine Evs ?_
 refine zhE (fun _=>zFC _ _ _ _ ok1 (Enc.mono (x:=a1) Lh oa1) (Enc.mono (x:=a2) Lh oa2)) ?_
 refine Evs ?_
 refine zi2 [7] rfl (by kernel_rfl) ?_
 refine Evs ?_
 refine ziT (by kernel_rfl) ?_
 refine Wk ?_
 refine zko (zxQ _ _ (Enc.mono (x:=a0) Lh oa0) hb0) rfl ?_
 rintro v h2 le2 ⟨s2,rfl,e2,ok2,m2⟩
 have n2_h:∀ b ∈ Foot.foot s2,h b=none:=fun b hb=>znC Lh (m2.2.1 b hb)
 replace ok1:=Enc.mono (x:=s1) le2 ok1
 replace Lh:=Hp.le_trans Lh le2
 have ow2:=m2.1
 refine Wk ?_
 refine ziU rfl ?_
 refine zi2 [0,1,3] rfl (by kernel_rfl) ?_
 refine Evs ?_
 refine ziS [2] (by kernel_rfl) (by kernel_rfl) ?_
 refine Evs ?_
 refine zhE (fun _=>zxy _ _) ?_
 refine Evs ?_
 refine ziS [4] (by kernel_rfl) (by kernel_rfl) ?_
 refine Evs ?_
 refine zhE (fun _=>zxy _ _) ?_
 refine Evs ?_
 refine ziS [5] (by kernel_rfl) (by kernel_rfl) ?_
 refine Evs ?_
 refine zhE (fun _=>zFD _ _ _ _ ok2 (Enc.mono (x:=a1) Lh oa1) (Enc.mono (x:=a2) Lh oa2)) ?_
 refine Evs ?_
 refine zi2 [6] rfl (by kernel_rfl) ?_
 refine Evs ?_
 refine ziT (by kernel_rfl) ?_
 refine Wk ?_
 refine zc9 rfl (fun c2=>?_) (fun c2=>?_)
 ·(exact absurd (by simp only [e1,e2]) (zjC c2))
 refine Wk ?_
 refine ziU rfl ?_
 refine zi2 [0,1] rfl (by kernel_rfl) ?_
 refine Evs ?_
 refine ziS [2] (by kernel_rfl) (by kernel_rfl) ?_
 refine Evs ?_
 refine zko (zxQ _ _ (Enc.mono (x:=a0) Lh oa0) hb0) rfl ?_
 rintro v h3 le3 ⟨s3,rfl,e3,ok3,m3⟩
 replace ow2:=znD (x:=s2) le3 ok2 ow2
 replace ok2:=Enc.mono (x:=s2) le3 ok2
 replace ok1:=Enc.mono (x:=s1) le3 ok1
 replace Lh:=Hp.le_trans Lh le3
 refine Evs ?_
 refine ziS [3] (by kernel_rfl) (by kernel_rfl) ?_
 refine Evs ?_
 refine zhE (fun _=>zyd _ _ _ ok2 ok3) ?_
 refine Evs ?_
 refine zi2 [4] rfl (by kernel_rfl) ?_
 refine Evs ?_
 refine ziT (by kernel_rfl) ?_
 refine Wk ?_
 refine zc9 rfl (fun c3=>?_) (fun c3=>?_)
 ·(rw [Bool.not_eq_true'] at c3;exact (of_decide_eq_false c3 (by simp only [e1,e2,e3])).elim)
 exact Wk0
set_option maxRecDepth 100000 in
theorem zHg (os:Os) (started:os.Started) (H:Type) (enc:TypeId × Value→H) :
  ReturnsInHanded {} Tryz.checked os 4 .any (Rows.fnExactPairFloorSpec.pre6 enc Tryz.prog Tryz.f4 Rows.fnExactPairFloorRow.domain false) (Rows.fnExactPairFloorSpec.post enc Tryz.prog Tryz.f4 false true false false):=by
 refine returnsInHanded_of_change (C:=Tryz.checked) Tryz.own started (by kernel_rfl) Tryz.func4
  (ChangeSpec.witness6 (enc:=enc) (C:=Tryz.checked) false ⟨#[],#[.agg #[.int .i64 0,.slice none 0 0,.slice none 0 0,.slice none 0 0,.slice none 0 0,.slice none 0 0,.int .i64 0,.bool false,.int .i64 0,.int .i64 0,.int .i64 0,.slice none 0 0],.agg #[.int .i64 0,.int .i64 0,.int .i64 0,.int .i64 0,.int .i64 0],.agg #[.int .i64 0,.int .i64 0,.int .i64 0,.int .i64 0,.int .i64 0]],[]⟩ 8 (by kernel_rfl) (by kernel_rfl) (by kernel_rfl) (by kernel_rfl)) ?_
 intro W base args ds gs before hval0 hW hcnd _
 have hval:∀ (j:Nat) t v,Tryz.f4.params[j]?=some t→args[j]?=some v→Value.okWide Tryz.prog W .any base t v:=hval0
 have hW':=hW
 obtain ⟨p,q,hA0,hV,rfl,hfz,hnd⟩:=hW
 have hA:DataW.TrodAll enc Tryz.prog W 0 (fun _=>true) true Tryz.f4.params.toList args.toList ds p:=hA0
 rw [Tryz.params4] at hA hval
 obtain ⟨args⟩:=args
 obtain ⟨rfl,rfl⟩:=trodVars_none hV
 have hA9:=hA
 obtain ⟨v0,vs0,d0,ds0,p0,q0,ev0,rfl,rfl,k0,r0⟩:=trodAll_cons hA
 obtain ⟨v1,vs1,d1,ds1,p1,q1,ev1,rfl,rfl,k1,r1⟩:=trodAll_cons r0
 obtain ⟨v2,vs2,d2,ds2,p2,q2,ev2,rfl,rfl,k2,r2⟩:=trodAll_cons r1
 obtain ⟨ev3,rfl,rfl⟩:=trodAll_nil r2
 simp only at ev0 ev1 ev2 ev3
 subst ev3
 subst ev2
 subst ev1
 subst ev0
 obtain ⟨a0,rfl,oa0⟩:=zlC Tryz.underlying39 zF0 (hval 0 _ v0 rfl rfl) k0
 obtain ⟨a1,rfl,oa1⟩:=zlC Tryz.underlying77 zFI (hval 1 _ v1 rfl rfl) k1
 obtain ⟨a2,rfl,oa2⟩:=zlC Tryz.underlying77 zFI (hval 2 _ v2 rfl rfl) k2
 simp only [List.append_nil] at hW' hA9
 have hct:=FnExactPairFloor_fn a0 a1 a2 (vw W) oa0 oa1 oa2
 unfold Ct at hct
 refine (hct.2 W (zkp W)).mono fun e W' ⟨v,h',he,hv,hb,_⟩=>?_
 subst he hv
 have hlt:∀ x ∈ (p0 ++ (p1 ++ (p2))),x.block < W.heap.size:=fun x hx=>hW'.lt x hx
 exact ⟨_,rfl,zkv hW' hb (fun _=>rfl) (fun _ _ _=>trodAll_mk1 (shut_bool Tryz.underlying4 true))
  (fun sp hsp=>zlD Tryz.laidOut hb (by kernel_rfl) hlt hsp hA9)⟩
set_option maxRecDepth 100000 in
set_option maxHeartbeats 200000000 in
theorem zHh:joinedFacts Tryz.pinned.checked.prog 4 Tryz.f4 Rows.fnExactPairFloorSpec Rows.fnExactPairFloorRow=true:=by
 unfold joinedFacts
 repeat' (rw [yqi];constructor)
 all_goals (as_aux_lemma=>kernel_rfl)
set_option maxRecDepth 100000 in
theorem FnExactPairFloor_holds:Rows.FnExactPairFloorSaid :=
 OpenClaim.holds_of_wide 4 Tryz.f4 rfl rfl rfl rfl rfl rfl rfl ⟨rfl,rfl,rfl,rfl,rfl⟩ rfl rfl rfl rfl rfl (by as_aux_lemma=>kernel_rfl) Tryz.func4 zHh
  (of_decide_eq_true (by as_aux_lemma=>kernel_rfl)) (by unfold Func.isWrapper;rw [if_neg (of_decide_eq_false (by as_aux_lemma=>kernel_rfl))];exact ⟨rfl,rfl⟩)
  (fun os started H enc _=>zHg os started H enc)
end Go.Proofs.YtbkaaakphpbmiaaGreat
