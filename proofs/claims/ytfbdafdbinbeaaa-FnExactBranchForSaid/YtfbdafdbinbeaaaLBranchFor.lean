/- The walk of a law of the given program, and the law itself as it is stated: it holds of every input. No condition. -/
import Derived.Test.YtfbdafdbinbeaaaFsz
import Derived.Test.YtfbdafdbinbeaaaFto
import Derived.Test.YtfbdafdbinbeaaaFeq
import Derived.Test.YtfbdafdbinbeaaaBra
import Derived.Test.YtfbdafdbinbeaaaOp
import Derived.Test.YtfbdafdbinbeaaaRows
set_option linter.unusedVariables false
set_option linter.unusedSimpArgs false
namespace Go.Proofs.Ytfbdafdbinbeaaa
open Go Go.SL Go.RowKit Go.ChangeShapes Go.WideShapes Go.ChangeAt
set_option maxHeartbeats 1000000
set_option maxRecDepth 100000 in
theorem FnExactBranchFor_fn (a0 : DStrategy) (a1 : Int) (h : Hp) (oa0 : Enc.ok h a0) (oa1 : Enc.ok h a1) : Ct Try.prog 4 [.agg #[.int .i64 a0.minute, a0.branches.val], .int .i64 a1] h fun v h' => v = .bool true := by
  refine Ct_of_T (fun A W => by simp) Try.func4 rfl rfl (by simp) fun W0 => ?_
  repeat' first | refine T_seq_region rfl ?_ | refine T_region rfl ?_ | refine T_ret ?_ | refine T_block ?_ | refine T_skip ?_ | refine T_exit ?_ | (simp (maxSteps := 2000000) only [go_sem, Nat.reduceAdd, Nat.reduceMul, Nat.reduceBEq, Nat.reduceLeDiff, Nat.reduceLT, Nat.reduceEqDiff]; try rfl) | refine T_seq ?_ | (refine And.intro ?_ ?_; focus (intros; simp_all only [Bool.or_eq_false_iff, Bool.or_eq_true, Bool.and_eq_true, and_self, true_and, and_true]; done))
  refine vfn_val (fun _ => szStrategy_fn _ _ _ oa0 (by omega)) ?_
  repeat' first | refine T_seq_region rfl ?_ | refine T_region rfl ?_ | refine T_ret ?_ | refine T_block ?_ | refine T_skip ?_ | refine T_exit ?_ | (simp (maxSteps := 2000000) only [go_sem, Nat.reduceAdd, Nat.reduceMul, Nat.reduceBEq, Nat.reduceLeDiff, Nat.reduceLT, Nat.reduceEqDiff]; try rfl) | refine T_seq ?_ | (refine And.intro ?_ ?_; focus (intros; simp_all only [Bool.or_eq_false_iff, Bool.or_eq_true, Bool.and_eq_true, and_self, true_and, and_true]; done))
  refine T_cond rfl (fun c1 => ?_) (fun c1 => ?_)
  · repeat' first | refine T_seq_region rfl ?_ | refine T_region rfl ?_ | refine T_ret ?_ | refine T_block ?_ | refine T_skip ?_ | refine T_exit ?_ | (simp (maxSteps := 2000000) only [go_sem, Nat.reduceAdd, Nat.reduceMul, Nat.reduceBEq, Nat.reduceLeDiff, Nat.reduceLT, Nat.reduceEqDiff]; try rfl) | refine T_seq ?_ | (refine And.intro ?_ ?_; focus (intros; simp_all only [Bool.or_eq_false_iff, Bool.or_eq_true, Bool.and_eq_true, and_self, true_and, and_true]; done))
  have hp0 := lo_ge c1
  have hn0 := lo_in (show (0:Int) ≤ 1048576 ∧ (1048576:Int) ≤ 1048576 by omega) hp0
  have hb0 : Blk.blk a0 ≤ 1048576 := by have h1 := lo_fit hp0; have h2 := (show (0:Int) ≤ 1048576 ∧ (1048576:Int) ≤ 1048576 by omega); omega
  repeat' first | refine T_seq_region rfl ?_ | refine T_region rfl ?_ | refine T_ret ?_ | refine T_block ?_ | refine T_skip ?_ | refine T_exit ?_ | (simp (maxSteps := 2000000) only [go_sem, Nat.reduceAdd, Nat.reduceMul, Nat.reduceBEq, Nat.reduceLeDiff, Nat.reduceLT, Nat.reduceEqDiff]; try rfl) | refine T_seq ?_ | (refine And.intro ?_ ?_; focus (intros; simp_all only [Bool.or_eq_false_iff, Bool.or_eq_true, Bool.and_eq_true, and_self, true_and, and_true]; done))
  refine vfn_at (toStrategy_fn _ _ oa0 hb0) rfl ?_
  rintro v h1 le1 ⟨s1, rfl, e1, ok1, m1⟩
  have Lh := le1
  repeat' first | refine T_seq_region rfl ?_ | refine T_region rfl ?_ | refine T_ret ?_ | refine T_block ?_ | refine T_skip ?_ | refine T_exit ?_ | (simp (maxSteps := 2000000) only [go_sem, Nat.reduceAdd, Nat.reduceMul, Nat.reduceBEq, Nat.reduceLeDiff, Nat.reduceLT, Nat.reduceEqDiff]; try rfl) | refine T_seq ?_ | (refine And.intro ?_ ?_; focus (intros; simp_all only [Bool.or_eq_false_iff, Bool.or_eq_true, Bool.and_eq_true, and_self, true_and, and_true]; done))
  refine vfn_val (fun _ => spec_BranchFor_fn _ _ _ ok1 oa1) ?_
  repeat' first | refine T_seq_region rfl ?_ | refine T_region rfl ?_ | refine T_ret ?_ | refine T_block ?_ | refine T_skip ?_ | refine T_exit ?_ | (simp (maxSteps := 2000000) only [go_sem, Nat.reduceAdd, Nat.reduceMul, Nat.reduceBEq, Nat.reduceLeDiff, Nat.reduceLT, Nat.reduceEqDiff]; try rfl) | refine T_seq ?_ | (refine And.intro ?_ ?_; focus (intros; simp_all only [Bool.or_eq_false_iff, Bool.or_eq_true, Bool.and_eq_true, and_self, true_and, and_true]; done))
  refine vfn_at (toStrategy_fn _ _ (Enc.mono (x := a0) Lh oa0) hb0) rfl ?_
  rintro v h2 le2 ⟨s2, rfl, e2, ok2, m2⟩
  have n2_h : ∀ b ∈ Foot.foot s2, h b = none := fun b hb => none_of_le Lh (m2.2.1 b hb)
  replace ok1 := Enc.mono (x := s1) le2 ok1
  replace Lh := Hp.le_trans Lh le2
  have ow2 := m2.1
  repeat' first | refine T_seq_region rfl ?_ | refine T_region rfl ?_ | refine T_ret ?_ | refine T_block ?_ | refine T_skip ?_ | refine T_exit ?_ | (simp (maxSteps := 2000000) only [go_sem, Nat.reduceAdd, Nat.reduceMul, Nat.reduceBEq, Nat.reduceLeDiff, Nat.reduceLT, Nat.reduceEqDiff]; try rfl) | refine T_seq ?_ | (refine And.intro ?_ ?_; focus (intros; simp_all only [Bool.or_eq_false_iff, Bool.or_eq_true, Bool.and_eq_true, and_self, true_and, and_true]; done))
  refine vfn_val (fun _ => impl_BranchFor_fn _ _ _ ok2 oa1) ?_
  repeat' first | refine T_seq_region rfl ?_ | refine T_region rfl ?_ | refine T_ret ?_ | refine T_block ?_ | refine T_skip ?_ | refine T_exit ?_ | (simp (maxSteps := 2000000) only [go_sem, Nat.reduceAdd, Nat.reduceMul, Nat.reduceBEq, Nat.reduceLeDiff, Nat.reduceLT, Nat.reduceEqDiff]; try rfl) | refine T_seq ?_ | (refine And.intro ?_ ?_; focus (intros; simp_all only [Bool.or_eq_false_iff, Bool.or_eq_true, Bool.and_eq_true, and_self, true_and, and_true]; done))
  refine T_cond rfl (fun c2 => ?_) (fun c2 => ?_)
  · (exact absurd (by simp only [e1, e2]) (ne_of_bne c2))
  repeat' first | refine T_seq_region rfl ?_ | refine T_region rfl ?_ | refine T_ret ?_ | refine T_block ?_ | refine T_skip ?_ | refine T_exit ?_ | (simp (maxSteps := 2000000) only [go_sem, Nat.reduceAdd, Nat.reduceMul, Nat.reduceBEq, Nat.reduceLeDiff, Nat.reduceLT, Nat.reduceEqDiff]; try rfl) | refine T_seq ?_ | (refine And.intro ?_ ?_; focus (intros; simp_all only [Bool.or_eq_false_iff, Bool.or_eq_true, Bool.and_eq_true, and_self, true_and, and_true]; done))
  refine T_any rfl ?_
  refine V_takes [0, 1] rfl (by kernel_rfl) ?_
  simp (maxSteps := 2000000) only [go_sem, Nat.reduceAdd, Nat.reduceMul, Nat.reduceBEq, Nat.reduceLeDiff, Nat.reduceLT, Nat.reduceEqDiff]
  refine V_branch [2] (by kernel_rfl) (by kernel_rfl) ?_
  simp (maxSteps := 2000000) only [go_sem, Nat.reduceAdd, Nat.reduceMul, Nat.reduceBEq, Nat.reduceLeDiff, Nat.reduceLT, Nat.reduceEqDiff]
  refine vfn_at (toStrategy_fn _ _ (Enc.mono (x := a0) Lh oa0) hb0) rfl ?_
  rintro v h3 le3 ⟨s3, rfl, e3, ok3, m3⟩
  replace ow2 := own_le (x := s2) le3 ok2 ow2
  replace ok2 := Enc.mono (x := s2) le3 ok2
  replace ok1 := Enc.mono (x := s1) le3 ok1
  replace Lh := Hp.le_trans Lh le3
  simp (maxSteps := 2000000) only [go_sem, Nat.reduceAdd, Nat.reduceMul, Nat.reduceBEq, Nat.reduceLeDiff, Nat.reduceLT, Nat.reduceEqDiff]
  refine V_branch [3] (by kernel_rfl) (by kernel_rfl) ?_
  simp (maxSteps := 2000000) only [go_sem, Nat.reduceAdd, Nat.reduceMul, Nat.reduceBEq, Nat.reduceLeDiff, Nat.reduceLT, Nat.reduceEqDiff]
  refine vfn_val (fun _ => eqStrategy_fn _ _ _ ok2 ok3) ?_
  simp (maxSteps := 2000000) only [go_sem, Nat.reduceAdd, Nat.reduceMul, Nat.reduceBEq, Nat.reduceLeDiff, Nat.reduceLT, Nat.reduceEqDiff]
  refine V_takes [4] rfl (by kernel_rfl) ?_
  simp (maxSteps := 2000000) only [go_sem, Nat.reduceAdd, Nat.reduceMul, Nat.reduceBEq, Nat.reduceLeDiff, Nat.reduceLT, Nat.reduceEqDiff]
  refine V_done (by kernel_rfl) ?_
  repeat' first | refine T_seq_region rfl ?_ | refine T_region rfl ?_ | refine T_ret ?_ | refine T_block ?_ | refine T_skip ?_ | refine T_exit ?_ | (simp (maxSteps := 2000000) only [go_sem, Nat.reduceAdd, Nat.reduceMul, Nat.reduceBEq, Nat.reduceLeDiff, Nat.reduceLT, Nat.reduceEqDiff]; try rfl) | refine T_seq ?_ | (refine And.intro ?_ ?_; focus (intros; simp_all only [Bool.or_eq_false_iff, Bool.or_eq_true, Bool.and_eq_true, and_self, true_and, and_true]; done))
  refine T_cond rfl (fun c3 => ?_) (fun c3 => ?_)
  · (rw [Bool.not_eq_true'] at c3; exact (of_decide_eq_false c3 (by simp only [e1, e2, e3])).elim)
  repeat' first | refine T_seq_region rfl ?_ | refine T_region rfl ?_ | refine T_ret ?_ | refine T_block ?_ | refine T_skip ?_ | refine T_exit ?_ | (simp (maxSteps := 2000000) only [go_sem, Nat.reduceAdd, Nat.reduceMul, Nat.reduceBEq, Nat.reduceLeDiff, Nat.reduceLT, Nat.reduceEqDiff]; try rfl) | refine T_seq ?_ | (refine And.intro ?_ ?_; focus (intros; simp_all only [Bool.or_eq_false_iff, Bool.or_eq_true, Bool.and_eq_true, and_self, true_and, and_true]; done))
set_option maxRecDepth 100000 in
theorem BranchFor_lifted (os : Os) (started : os.Started) (H : Type) (enc : TypeId × Value → H) :
    ReturnsInHanded {} Try.checked os 4 .any (Rows.fnExactBranchForSpec.pre6 enc Try.prog Try.f4 Rows.fnExactBranchForRow.domain false) (Rows.fnExactBranchForSpec.post enc Try.prog Try.f4 false true false false) := by
  refine returnsInHanded_of_change (C := Try.checked) Try.own started (by kernel_rfl) Try.func4
    (ChangeSpec.witness6 (enc := enc) (C := Try.checked) false ⟨#[], #[.agg #[.int .i64 0, .slice none 0 0], .int .i64 0], []⟩ 8 (by kernel_rfl) (by kernel_rfl) (by kernel_rfl) (by kernel_rfl)) ?_
  intro W base args ds gs before hval0 hW hcnd _
  have hval : ∀ (j : Nat) t v, Try.f4.params[j]? = some t → args[j]? = some v → Value.okWide Try.prog W .any base t v := hval0
  have hW' := hW
  obtain ⟨p, q, hA0, hV, rfl, hfz, hnd⟩ := hW
  have hA : DataW.TrodAll enc Try.prog W 0 (fun _ => true) true Try.f4.params.toList args.toList ds p := hA0
  rw [Try.params4] at hA hval
  obtain ⟨args⟩ := args
  obtain ⟨rfl, rfl⟩ := trodVars_none hV
  have hA9 := hA
  obtain ⟨v0, vs0, d0, ds0, p0, q0, ev0, rfl, rfl, k0, r0⟩ := trodAll_cons hA
  obtain ⟨v1, vs1, d1, ds1, p1, q1, ev1, rfl, rfl, k1, r1⟩ := trodAll_cons r0
  obtain ⟨ev2, rfl, rfl⟩ := trodAll_nil r1
  simp only at ev0 ev1 ev2
  subst ev2
  subst ev1
  subst ev0
  obtain ⟨a0, rfl, oa0⟩ := open1_struct Try.underlying35 opens_Strategy (hval 0 _ v0 rfl rfl) k0
  obtain ⟨a1, rfl, oa1⟩ := open1_int Try.underlying3 (hval 1 _ v1 rfl rfl) k1
  simp only [List.append_nil] at hW' hA9
  have hct := FnExactBranchFor_fn a0 a1 (vw W) oa0 oa1
  unfold Ct at hct
  refine (hct.2 W (sees_vw W)).mono fun e W' ⟨v, h', he, hv, hb, _⟩ => ?_
  subst he hv
  have hlt : ∀ x ∈ (p0 ++ (p1)), x.block < W.heap.size := fun x hx => hW'.lt x hx
  exact ⟨_, rfl, post_law hW' hb (fun _ => rfl) (fun _ _ _ => trodAll_mk1 (shut_bool Try.underlying4 true))
    (fun sp hsp => trodAll_stays Try.laidOut hb (by kernel_rfl) hlt hsp hA9)⟩
theorem FnExactBranchFor_holds : Rows.FnExactBranchForSaid :=
  OpenClaim.holds_of_wide 4 Try.f4 rfl rfl rfl rfl rfl rfl rfl ⟨rfl, rfl, rfl, rfl, rfl⟩ rfl rfl rfl rfl rfl (by kernel_rfl) Try.func4 (by kernel_rfl)
    (of_decide_eq_true (by kernel_rfl)) (by unfold Func.isWrapper; rw [if_neg (of_decide_eq_false (by kernel_rfl))]; exact ⟨rfl, rfl⟩)
    (fun os started H enc _ => BranchFor_lifted os started H enc)
end Go.Proofs.Ytfbdafdbinbeaaa
