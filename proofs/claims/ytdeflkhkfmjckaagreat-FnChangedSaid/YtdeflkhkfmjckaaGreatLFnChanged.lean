/- The walk of a law of the given program, and the law itself as it is stated: it holds of every input. No condition. -/
import Derived.Test.YtdeflkhkfmjckaaGreatRows
import Derived.Test.YtdeflkhkfmjckaaGreatSGFnTopx5
import Derived.Test.YtdeflkhkfmjckaaGreatXGFnTop19
import Derived.Test.YtdeflkhkfmjckaaGreatXGFnTop20
set_option linter.unusedVariables false
set_option linter.unusedSimpArgs false
set_option maxRecDepth 4000
open Nat renaming reduceAdd → jq, reduceMul → jj, reduceBEq → jy, reduceLeDiff → jv, reduceLT → jk, reduceEqDiff → jx
open Bool renaming or_eq_false_iff → jp, or_eq_true → jQ, and_eq_true → jJ
open Int renaming toNat_natCast → jW, natCast_nonneg → jY
open Go.Proofs.Tryz renaming prog → jV
namespace Go.Proofs.YtdeflkhkfmjckaaGreat
open Go Go.SL Go.RowKit Go.ChangeShapes Go.WideShapes Go.ChangeAt
set_option maxHeartbeats 1000000
theorem zEP:Tryz.prog.cellsOf 5=1:=by kernel_rfl
theorem zEQ:Opens (Sl U8) jV 22:=zkn Tryz.underlying22 (by kernel_rfl) (zoo Tryz.underlying5)
set_option maxRecDepth 100000 in
theorem zOw (os:Os) (started:os.Started) (H:Type) (enc:TypeId × Value→H) :
  ReturnsInHanded {} Tryz.checked os 4 .any (Rows.fnChangedSpec.pre6 enc jV Tryz.f4 Rows.fnChangedRow.domain false) (Rows.fnChangedSpec.post enc jV Tryz.f4 false true false false):=by
 refine returnsInHanded_of_change (C:=Tryz.checked) Tryz.own started (by kernel_rfl) Tryz.func4
  (ChangeSpec.witness6 (enc:=enc) (C:=Tryz.checked) false ⟨#[],#[.slice none 0 0],[]⟩ 8 (by kernel_rfl) (by kernel_rfl) (by kernel_rfl) (by kernel_rfl)) ?_
 intro W base args ds gs before hval0 hW hcnd _
 have hval:∀ (j:Nat) t v,Tryz.f4.params[j]?=some t→args[j]?=some v→Value.okWide jV W .any base t v:=hval0
 have hW':=hW
 obtain ⟨p,q,hA0,hV,rfl,hfz,hnd⟩:=hW
 have hA:DataW.TrodAll enc jV W 0 (fun _=>true) true Tryz.f4.params.toList args.toList ds p:=hA0
 rw [Tryz.params4] at hA hval
 obtain ⟨args⟩:=args
 obtain ⟨rfl,rfl⟩:=trodVars_none hV
 have hA9:=hA
 obtain ⟨v0,vs0,d0,ds0,p0,q0,ev0,rfl,rfl,k0,r0⟩:=trodAll_cons hA
 obtain ⟨ev1,rfl,rfl⟩:=trodAll_nil r0
 simp only at ev0 ev1
 subst ev1
 subst ev0
 obtain ⟨a0,rfl,oa0⟩:=zlf Tryz.underlying22 zEQ (hval 0 _ v0 rfl rfl) k0
 simp only [List.append_nil] at hW' hA9
 have hct:=zOt a0 (vw W) oa0
 unfold Ct at hct
 refine (hct.2 W (zkk W)).mono fun e W' ⟨v,h',he,hv,hb,_⟩=>?_
 subst he hv
 have hlt:∀ x ∈ p0,x.block < W.heap.size:=fun x hx=>hW'.lt x hx
 exact ⟨_,rfl,zko hW' hb (fun _=>rfl) (fun _ _ _=>trodAll_mk1 (shut_bool Tryz.underlying4 true))
  (fun sp hsp=>zlg Tryz.laidOut hb (by kernel_rfl) hlt hsp hA9)⟩
set_option maxRecDepth 100000 in
set_option maxHeartbeats 200000000 in
theorem zOx:joinedFacts Tryz.pinned.checked.prog 4 Tryz.f4 Rows.fnChangedSpec Rows.fnChangedRow=true:=by
 unfold joinedFacts
 repeat' (rw [jJ];constructor)
 all_goals (as_aux_lemma=>kernel_rfl)
set_option maxRecDepth 100000 in
theorem FnChanged_holds:Rows.FnChangedSaid :=
 OpenClaim.holds_of_wide 4 Tryz.f4 rfl rfl rfl rfl rfl rfl rfl ⟨rfl,rfl,rfl,rfl,rfl⟩ rfl rfl rfl rfl rfl (by as_aux_lemma=>kernel_rfl) Tryz.func4 zOx
  (of_decide_eq_true (by as_aux_lemma=>kernel_rfl)) (by unfold Func.isWrapper;rw [if_neg (of_decide_eq_false (by as_aux_lemma=>kernel_rfl))];exact ⟨rfl,rfl⟩)
  (fun os started H enc _=>zOw os started H enc)
end Go.Proofs.YtdeflkhkfmjckaaGreat
