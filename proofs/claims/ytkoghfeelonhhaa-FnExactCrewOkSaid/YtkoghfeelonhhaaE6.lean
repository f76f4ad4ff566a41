/- What functions of the program compute, and the laws over them. No condition beside those that each theorem states. -/
import Derived.Test.YtkoghfeelonhhaaE5
import Derived.Test.YtkoghfeelonhhaaSL19
import Derived.Test.YtkoghfeelonhhaaRows
set_option linter.unusedVariables false
set_option linter.unusedSimpArgs false
namespace Go.Proofs.Ytkoghfeelonhhaa
open Go Go.SL Go.ChangeShapes Go.WideShapes Go.ChangeAt Go.RowKit
set_option maxHeartbeats 1000000
theorem opens_Int3 : Opens Int Try.prog 3 := opens_int Try.underlying3
theorem opens_IntS : Opens (Sl Int) Try.prog 22 := opens_slice Try.underlying22 (by kernel_rfl) opens_Int3
theorem cells3 : Try.prog.cellsOf 3 = 1 := by kernel_rfl
theorem cells22 : Try.prog.cellsOf 22 = 1 := by kernel_rfl
set_option maxRecDepth 100000 in
theorem opens_Crew : Opens Crew Try.prog 24 := by
  intro H enc w base spare held fuel cs x h
  obtain ⟨hl, hf⟩ := opens_fields Try.underlying24 h
  have hl : cs.length = 4 := hl.trans (by kernel_rfl)
  match cs, hl with
  | [c0, c1, c2, c3], _ =>
    obtain ⟨a0, e0, o0⟩ := opens_Int3.field hf 0 0 1 ⟨_, rfl, rfl, rfl⟩ cells3
    obtain ⟨a1, e1, o1⟩ := opens_Int3.field hf 1 1 1 ⟨_, rfl, rfl, rfl⟩ cells3
    obtain ⟨a2, e2, o2⟩ := opens_Int3.field hf 2 2 1 ⟨_, rfl, rfl, rfl⟩ cells3
    obtain ⟨a3, e3, o3⟩ := opens_IntS.field hf 3 3 1 ⟨_, rfl, rfl, rfl⟩ cells22
    injection e0 with e0
    injection e1 with e1
    injection e2 with e2
    injection e3 with e3
    subst e0 e1 e2 e3
    exact ⟨⟨a0, a1, a2, a3⟩, rfl, o0, o1, o2, o3⟩
theorem Try.own : ownKnob Try.prog.godebug = none := by kernel_rfl
theorem Try.laidOut : laidOutB Try.prog = true := by kernel_rfl
set_option maxRecDepth 100000 in
theorem crewOk_lifted (os : Os) (started : os.Started) (H : Type) (enc : TypeId × Value → H) :
    ReturnsInHanded {} Try.checked os 3 .any (Rows.fnExactCrewOkSpec.pre6 enc Try.prog Try.f3 Rows.fnExactCrewOkRow.domain false) (Rows.fnExactCrewOkSpec.post enc Try.prog Try.f3 false true false false) := by
  refine returnsInHanded_of_change (C := Try.checked) Try.own started (by kernel_rfl) Try.func3
    (ChangeSpec.witness6 (enc := enc) (C := Try.checked) false ⟨#[], #[.agg #[.int .i64 0, .int .i64 0, .int .i64 0, .slice none 0 0]], []⟩ 8 (by kernel_rfl) (by kernel_rfl) (by kernel_rfl) (by kernel_rfl)) ?_
  intro W base args ds gs before hval0 hW hcnd _
  have hval : ∀ (j : Nat) t v, Try.f3.params[j]? = some t → args[j]? = some v → Value.okWide Try.prog W .any base t v := hval0
  have hW' := hW
  obtain ⟨p, q, hA0, hV, rfl, hfz, hnd⟩ := hW
  have hA : DataW.TrodAll enc Try.prog W 0 (fun _ => true) true Try.f3.params.toList args.toList ds p := hA0
  rw [Try.params3] at hA hval
  obtain ⟨v0, d0, rfl, rfl, h0⟩ := trodAll_one hA
  obtain ⟨rfl, rfl⟩ := trodVars_none hV
  have h0k := h0
  obtain ⟨cs0, rfl, _⟩ := okWide_struct Try.underlying24 (hval 0 24 v0 rfl rfl)
  obtain ⟨fuel0, h0⟩ := h0
  obtain ⟨c, e0, ok0⟩ := opens_Crew H enc W 0 _ true _ _ _ h0
  simp only [List.append_nil] at hW'
  have e1 : cs0.toList = Enc.enc c := e0
  have e2 : cs0 = (Enc.enc c).toArray := by rw [← e1]
  subst e2
  have hct := FnExactCrewOk_fn c (vw W) ok0 ok0.2.2.2.max
  unfold Ct at hct
  refine (hct.2 W (sees_vw W)).mono fun e W' ⟨v, h', he, hv, hb, _⟩ => ?_
  subst he hv
  have hlt : ∀ x ∈ p, x.block < W.heap.size := fun x hx => hW'.lt x hx
  exact ⟨_, rfl, post_law hW' hb (fun _ => rfl) (fun _ _ _ => trodAll_mk1 (shut_bool Try.underlying4 true))
    (fun sp hsp => trodAll_mk1 (WideElems.Trod_stays Try.laidOut (by kernel_rfl) (of_decide_eq_true (by kernel_rfl)) h0k (fun x hx => hb.same (hlt x hx)) hsp))⟩
theorem FnExactCrewOk_holds : Rows.FnExactCrewOkSaid :=
  OpenClaim.holds_of_wide 3 Try.f3 rfl rfl rfl rfl rfl rfl rfl ⟨rfl, rfl, rfl, rfl, rfl⟩ rfl rfl rfl rfl rfl (by kernel_rfl) Try.func3 (by kernel_rfl)
    (of_decide_eq_true (by kernel_rfl)) (by unfold Func.isWrapper; rw [if_neg (of_decide_eq_false (by kernel_rfl))]; exact ⟨rfl, rfl⟩)
    (fun os started H enc _ => crewOk_lifted os started H enc)
end Go.Proofs.Ytkoghfeelonhhaa
