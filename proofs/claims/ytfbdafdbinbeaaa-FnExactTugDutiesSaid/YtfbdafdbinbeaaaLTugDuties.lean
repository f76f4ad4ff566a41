/- The walk of a law of the given program, and the law itself as it is stated: it holds of every input. No condition. -/
import Derived.Test.YtfbdafdbinbeaaaFsz
import Derived.Test.YtfbdafdbinbeaaaFto
import Derived.Test.YtfbdafdbinbeaaaFeq
import Derived.Test.YtfbdafdbinbeaaaFmark
import Derived.Test.YtfbdafdbinbeaaaFheld
import Derived.Test.YtfbdafdbinbeaaaTug
import Derived.Test.YtfbdafdbinbeaaaOp
import Derived.Test.YtfbdafdbinbeaaaRows
set_option linter.unusedVariables false
set_option linter.unusedSimpArgs false
namespace Go.Proofs.Ytfbdafdbinbeaaa
open Go Go.SL Go.RowKit Go.ChangeShapes Go.WideShapes Go.ChangeAt
set_option maxHeartbeats 1000000
set_option maxRecDepth 100000 in
theorem FnExactTugDuties_fn (a0 : DChart) (a1 : Sl DShip) (a2 : Sl DPassage) (h : Hp) (oa0 : Enc.ok h a0) (oa1 : Enc.ok h a1) (oa2 : Enc.ok h a2) : Ct Try.prog 8 [.agg #[a0.points.val, a0.segments.val], a1.val, a2.val] h fun v h' => v = .bool true := by
  refine Ct_of_T (fun A W => by simp) Try.func8 rfl rfl (by simp) fun W0 => ?_
  repeat' first | refine T_seq_region rfl ?_ | refine T_region rfl ?_ | refine T_ret ?_ | refine T_block ?_ | refine T_skip ?_ | refine T_exit ?_ | (simp (maxSteps := 2000000) only [go_sem, Nat.reduceAdd, Nat.reduceMul, Nat.reduceBEq, Nat.reduceLeDiff, Nat.reduceLT, Nat.reduceEqDiff]; try rfl) | refine T_seq ?_ | (refine And.intro ?_ ?_; focus (intros; simp_all only [Bool.or_eq_false_iff, Bool.or_eq_true, Bool.and_eq_true, and_self, true_and, and_true]; done))
  refine vfn_val (fun _ => szChart_fn _ _ _ oa0 (by omega)) ?_
  repeat' first | refine T_seq_region rfl ?_ | refine T_region rfl ?_ | refine T_ret ?_ | refine T_block ?_ | refine T_skip ?_ | refine T_exit ?_ | (simp (maxSteps := 2000000) only [go_sem, Nat.reduceAdd, Nat.reduceMul, Nat.reduceBEq, Nat.reduceLeDiff, Nat.reduceLT, Nat.reduceEqDiff]; try rfl) | refine T_seq ?_ | (refine And.intro ?_ ?_; focus (intros; simp_all only [Bool.or_eq_false_iff, Bool.or_eq_true, Bool.and_eq_true, and_self, true_and, and_true]; done))
  refine T_cond rfl (fun c1 => ?_) (fun c1 => ?_)
  · repeat' first | refine T_seq_region rfl ?_ | refine T_region rfl ?_ | refine T_ret ?_ | refine T_block ?_ | refine T_skip ?_ | refine T_exit ?_ | (simp (maxSteps := 2000000) only [go_sem, Nat.reduceAdd, Nat.reduceMul, Nat.reduceBEq, Nat.reduceLeDiff, Nat.reduceLT, Nat.reduceEqDiff]; try rfl) | refine T_seq ?_ | (refine And.intro ?_ ?_; focus (intros; simp_all only [Bool.or_eq_false_iff, Bool.or_eq_true, Bool.and_eq_true, and_self, true_and, and_true]; done))
  have hp0 := lo_ge c1
  have hn0 := lo_in (show (0:Int) ≤ 1048576 ∧ (1048576:Int) ≤ 1048576 by omega) hp0
  have hb0 : Blk.blk a0 ≤ 1048576 := by have h1 := lo_fit hp0; have h2 := (show (0:Int) ≤ 1048576 ∧ (1048576:Int) ≤ 1048576 by omega); omega
  repeat' first | refine T_seq_region rfl ?_ | refine T_region rfl ?_ | refine T_ret ?_ | refine T_block ?_ | refine T_skip ?_ | refine T_exit ?_ | (simp (maxSteps := 2000000) only [go_sem, Nat.reduceAdd, Nat.reduceMul, Nat.reduceBEq, Nat.reduceLeDiff, Nat.reduceLT, Nat.reduceEqDiff]; try rfl) | refine T_seq ?_ | (refine And.intro ?_ ?_; focus (intros; simp_all only [Bool.or_eq_false_iff, Bool.or_eq_true, Bool.and_eq_true, and_self, true_and, and_true]; done))
  refine vfn_val (fun _ => szShipS_fn _ _ _ oa1 hn0) ?_
  repeat' first | refine T_seq_region rfl ?_ | refine T_region rfl ?_ | refine T_ret ?_ | refine T_block ?_ | refine T_skip ?_ | refine T_exit ?_ | (simp (maxSteps := 2000000) only [go_sem, Nat.reduceAdd, Nat.reduceMul, Nat.reduceBEq, Nat.reduceLeDiff, Nat.reduceLT, Nat.reduceEqDiff]; try rfl) | refine T_seq ?_ | (refine And.intro ?_ ?_; focus (intros; simp_all only [Bool.or_eq_false_iff, Bool.or_eq_true, Bool.and_eq_true, and_self, true_and, and_true]; done))
  refine T_cond rfl (fun c2 => ?_) (fun c2 => ?_)
  · repeat' first | refine T_seq_region rfl ?_ | refine T_region rfl ?_ | refine T_ret ?_ | refine T_block ?_ | refine T_skip ?_ | refine T_exit ?_ | (simp (maxSteps := 2000000) only [go_sem, Nat.reduceAdd, Nat.reduceMul, Nat.reduceBEq, Nat.reduceLeDiff, Nat.reduceLT, Nat.reduceEqDiff]; try rfl) | refine T_seq ?_ | (refine And.intro ?_ ?_; focus (intros; simp_all only [Bool.or_eq_false_iff, Bool.or_eq_true, Bool.and_eq_true, and_self, true_and, and_true]; done))
  have hp1 := lo_ge c2
  have hn1 := lo_in hn0 hp1
  have hb1 : Blk.blk a1 ≤ 1048576 := by have h1 := lo_fit hp1; have h2 := hn0; omega
  repeat' first | refine T_seq_region rfl ?_ | refine T_region rfl ?_ | refine T_ret ?_ | refine T_block ?_ | refine T_skip ?_ | refine T_exit ?_ | (simp (maxSteps := 2000000) only [go_sem, Nat.reduceAdd, Nat.reduceMul, Nat.reduceBEq, Nat.reduceLeDiff, Nat.reduceLT, Nat.reduceEqDiff]; try rfl) | refine T_seq ?_ | (refine And.intro ?_ ?_; focus (intros; simp_all only [Bool.or_eq_false_iff, Bool.or_eq_true, Bool.and_eq_true, and_self, true_and, and_true]; done))
  refine vfn_val (fun _ => szPassageS_fn _ _ _ oa2 hn1) ?_
  repeat' first | refine T_seq_region rfl ?_ | refine T_region rfl ?_ | refine T_ret ?_ | refine T_block ?_ | refine T_skip ?_ | refine T_exit ?_ | (simp (maxSteps := 2000000) only [go_sem, Nat.reduceAdd, Nat.reduceMul, Nat.reduceBEq, Nat.reduceLeDiff, Nat.reduceLT, Nat.reduceEqDiff]; try rfl) | refine T_seq ?_ | (refine And.intro ?_ ?_; focus (intros; simp_all only [Bool.or_eq_false_iff, Bool.or_eq_true, Bool.and_eq_true, and_self, true_and, and_true]; done))
  refine T_cond rfl (fun c3 => ?_) (fun c3 => ?_)
  · repeat' first | refine T_seq_region rfl ?_ | refine T_region rfl ?_ | refine T_ret ?_ | refine T_block ?_ | refine T_skip ?_ | refine T_exit ?_ | (simp (maxSteps := 2000000) only [go_sem, Nat.reduceAdd, Nat.reduceMul, Nat.reduceBEq, Nat.reduceLeDiff, Nat.reduceLT, Nat.reduceEqDiff]; try rfl) | refine T_seq ?_ | (refine And.intro ?_ ?_; focus (intros; simp_all only [Bool.or_eq_false_iff, Bool.or_eq_true, Bool.and_eq_true, and_self, true_and, and_true]; done))
  have hp2 := lo_ge c3
  have hn2 := lo_in hn1 hp2
  have hb2 : Blk.blk a2 ≤ 1048576 := by have h1 := lo_fit hp2; have h2 := hn1; omega
  repeat' first | refine T_seq_region rfl ?_ | refine T_region rfl ?_ | refine T_ret ?_ | refine T_block ?_ | refine T_skip ?_ | refine T_exit ?_ | (simp (maxSteps := 2000000) only [go_sem, Nat.reduceAdd, Nat.reduceMul, Nat.reduceBEq, Nat.reduceLeDiff, Nat.reduceLT, Nat.reduceEqDiff]; try rfl) | refine T_seq ?_ | (refine And.intro ?_ ?_; focus (intros; simp_all only [Bool.or_eq_false_iff, Bool.or_eq_true, Bool.and_eq_true, and_self, true_and, and_true]; done))
  refine vfn_at (toChart_fn _ _ oa0 hb0) rfl ?_
  rintro v h1 le1 ⟨s1, rfl, e1, ok1, m1⟩
  have Lh := le1
  repeat' first | refine T_seq_region rfl ?_ | refine T_region rfl ?_ | refine T_ret ?_ | refine T_block ?_ | refine T_skip ?_ | refine T_exit ?_ | (simp (maxSteps := 2000000) only [go_sem, Nat.reduceAdd, Nat.reduceMul, Nat.reduceBEq, Nat.reduceLeDiff, Nat.reduceLT, Nat.reduceEqDiff]; try rfl) | refine T_seq ?_ | (refine And.intro ?_ ?_; focus (intros; simp_all only [Bool.or_eq_false_iff, Bool.or_eq_true, Bool.and_eq_true, and_self, true_and, and_true]; done))
  refine vfn_at (toShipS_fn _ _ (Enc.mono (x := a1) Lh oa1) hb1) rfl ?_
  rintro v h2 le2 ⟨s2, rfl, e2, ok2, m2⟩
  replace ok1 := Enc.mono (x := s1) le2 ok1
  replace Lh := Hp.le_trans Lh le2
  repeat' first | refine T_seq_region rfl ?_ | refine T_region rfl ?_ | refine T_ret ?_ | refine T_block ?_ | refine T_skip ?_ | refine T_exit ?_ | (simp (maxSteps := 2000000) only [go_sem, Nat.reduceAdd, Nat.reduceMul, Nat.reduceBEq, Nat.reduceLeDiff, Nat.reduceLT, Nat.reduceEqDiff]; try rfl) | refine T_seq ?_ | (refine And.intro ?_ ?_; focus (intros; simp_all only [Bool.or_eq_false_iff, Bool.or_eq_true, Bool.and_eq_true, and_self, true_and, and_true]; done))
  refine vfn_at (toPassageS_fn _ _ (Enc.mono (x := a2) Lh oa2) hb2) rfl ?_
  rintro v h3 le3 ⟨s3, rfl, e3, ok3, m3⟩
  replace ok1 := Enc.mono (x := s1) le3 ok1
  replace ok2 := Enc.mono (x := s2) le3 ok2
  replace Lh := Hp.le_trans Lh le3
  repeat' first | refine T_seq_region rfl ?_ | refine T_region rfl ?_ | refine T_ret ?_ | refine T_block ?_ | refine T_skip ?_ | refine T_exit ?_ | (simp (maxSteps := 2000000) only [go_sem, Nat.reduceAdd, Nat.reduceMul, Nat.reduceBEq, Nat.reduceLeDiff, Nat.reduceLT, Nat.reduceEqDiff]; try rfl) | refine T_seq ?_ | (refine And.intro ?_ ?_; focus (intros; simp_all only [Bool.or_eq_false_iff, Bool.or_eq_true, Bool.and_eq_true, and_self, true_and, and_true]; done))
  refine vfn_at (spec_TugDuties_fn _ _ _ _ ok1 ok2 ok3) rfl ?_
  rintro v h4 le4 ⟨s4, rfl, e4, ok4, m4⟩
  replace ok1 := Enc.mono (x := s1) le4 ok1
  replace ok2 := Enc.mono (x := s2) le4 ok2
  replace ok3 := Enc.mono (x := s3) le4 ok3
  replace Lh := Hp.le_trans Lh le4
  have okw := ok4
  have Lh4 := Hp.le_refl h4
  repeat' first | refine T_seq_region rfl ?_ | refine T_region rfl ?_ | refine T_ret ?_ | refine T_block ?_ | refine T_skip ?_ | refine T_exit ?_ | (simp (maxSteps := 2000000) only [go_sem, Nat.reduceAdd, Nat.reduceMul, Nat.reduceBEq, Nat.reduceLeDiff, Nat.reduceLT, Nat.reduceEqDiff]; try rfl) | refine T_seq ?_ | (refine And.intro ?_ ?_; focus (intros; simp_all only [Bool.or_eq_false_iff, Bool.or_eq_true, Bool.and_eq_true, and_self, true_and, and_true]; done))
  refine vfn_at (toChart_fn _ _ (Enc.mono (x := a0) Lh oa0) hb0) rfl ?_
  rintro v h5 le5 ⟨s5, rfl, e5, ok5, m5⟩
  have n5_h : ∀ b ∈ Foot.foot s5, h b = none := fun b hb => none_of_le Lh (m5.2.1 b hb)
  have n5_h4 : ∀ b ∈ Foot.foot s5, h4 b = none := fun b hb => none_of_le Lh4 (m5.2.1 b hb)
  replace ok1 := Enc.mono (x := s1) le5 ok1
  replace ok2 := Enc.mono (x := s2) le5 ok2
  replace ok3 := Enc.mono (x := s3) le5 ok3
  replace Lh := Hp.le_trans Lh le5
  replace Lh4 := Hp.le_trans Lh4 le5
  have ow5 := m5.1
  repeat' first | refine T_seq_region rfl ?_ | refine T_region rfl ?_ | refine T_ret ?_ | refine T_block ?_ | refine T_skip ?_ | refine T_exit ?_ | (simp (maxSteps := 2000000) only [go_sem, Nat.reduceAdd, Nat.reduceMul, Nat.reduceBEq, Nat.reduceLeDiff, Nat.reduceLT, Nat.reduceEqDiff]; try rfl) | refine T_seq ?_ | (refine And.intro ?_ ?_; focus (intros; simp_all only [Bool.or_eq_false_iff, Bool.or_eq_true, Bool.and_eq_true, and_self, true_and, and_true]; done))
  refine vfn_at (toShipS_fn _ _ (Enc.mono (x := a1) Lh oa1) hb1) rfl ?_
  rintro v h6 le6 ⟨s6, rfl, e6, ok6, m6⟩
  have d6_5 : ∀ b ∈ Foot.foot s6, ¬ (b ∈ Foot.foot s5) := fun b hb hu => Foot.dom (x := s5) ow5 b hu (m6.2.1 b hb)
  have n6_h : ∀ b ∈ Foot.foot s6, h b = none := fun b hb => none_of_le Lh (m6.2.1 b hb)
  have n6_h4 : ∀ b ∈ Foot.foot s6, h4 b = none := fun b hb => none_of_le Lh4 (m6.2.1 b hb)
  replace ow5 := own_le (x := s5) le6 ok5 ow5
  replace ok5 := Enc.mono (x := s5) le6 ok5
  replace ok1 := Enc.mono (x := s1) le6 ok1
  replace ok2 := Enc.mono (x := s2) le6 ok2
  replace ok3 := Enc.mono (x := s3) le6 ok3
  replace Lh := Hp.le_trans Lh le6
  replace Lh4 := Hp.le_trans Lh4 le6
  have ow6 := m6.1
  repeat' first | refine T_seq_region rfl ?_ | refine T_region rfl ?_ | refine T_ret ?_ | refine T_block ?_ | refine T_skip ?_ | refine T_exit ?_ | (simp (maxSteps := 2000000) only [go_sem, Nat.reduceAdd, Nat.reduceMul, Nat.reduceBEq, Nat.reduceLeDiff, Nat.reduceLT, Nat.reduceEqDiff]; try rfl) | refine T_seq ?_ | (refine And.intro ?_ ?_; focus (intros; simp_all only [Bool.or_eq_false_iff, Bool.or_eq_true, Bool.and_eq_true, and_self, true_and, and_true]; done))
  refine vfn_at (toPassageS_fn _ _ (Enc.mono (x := a2) Lh oa2) hb2) rfl ?_
  rintro v h7 le7 ⟨s7, rfl, e7, ok7, m7⟩
  have d7_5 : ∀ b ∈ Foot.foot s7, ¬ (b ∈ Foot.foot s5) := fun b hb hu => Foot.dom (x := s5) ow5 b hu (m7.2.1 b hb)
  have d7_6 : ∀ b ∈ Foot.foot s7, ¬ (b ∈ Foot.foot s6) := fun b hb hu => Foot.dom (x := s6) ow6 b hu (m7.2.1 b hb)
  have n7_h : ∀ b ∈ Foot.foot s7, h b = none := fun b hb => none_of_le Lh (m7.2.1 b hb)
  have n7_h4 : ∀ b ∈ Foot.foot s7, h4 b = none := fun b hb => none_of_le Lh4 (m7.2.1 b hb)
  replace ow5 := own_le (x := s5) le7 ok5 ow5
  replace ok5 := Enc.mono (x := s5) le7 ok5
  replace ow6 := own_le (x := s6) le7 ok6 ow6
  replace ok6 := Enc.mono (x := s6) le7 ok6
  replace ok1 := Enc.mono (x := s1) le7 ok1
  replace ok2 := Enc.mono (x := s2) le7 ok2
  replace ok3 := Enc.mono (x := s3) le7 ok3
  replace Lh := Hp.le_trans Lh le7
  replace Lh4 := Hp.le_trans Lh4 le7
  have ow7 := m7.1
  repeat' first | refine T_seq_region rfl ?_ | refine T_region rfl ?_ | refine T_ret ?_ | refine T_block ?_ | refine T_skip ?_ | refine T_exit ?_ | (simp (maxSteps := 2000000) only [go_sem, Nat.reduceAdd, Nat.reduceMul, Nat.reduceBEq, Nat.reduceLeDiff, Nat.reduceLT, Nat.reduceEqDiff]; try rfl) | refine T_seq ?_ | (refine And.intro ?_ ?_; focus (intros; simp_all only [Bool.or_eq_false_iff, Bool.or_eq_true, Bool.and_eq_true, and_self, true_and, and_true]; done))
  refine vfn_at (impl_TugDuties_fn _ _ _ _ ok5 ok6 ok7) rfl ?_
  rintro v h8 le8 ⟨s8, rfl, e8, ok8, m8⟩
  have d8_5 : ∀ b ∈ Foot.foot s8, ¬ (b ∈ Foot.foot s5) := fun b hb hu => Foot.dom (x := s5) ow5 b hu (m8.2.1 b hb)
  have d8_6 : ∀ b ∈ Foot.foot s8, ¬ (b ∈ Foot.foot s6) := fun b hb hu => Foot.dom (x := s6) ow6 b hu (m8.2.1 b hb)
  have d8_7 : ∀ b ∈ Foot.foot s8, ¬ (b ∈ Foot.foot s7) := fun b hb hu => Foot.dom (x := s7) ow7 b hu (m8.2.1 b hb)
  have n8_h : ∀ b ∈ Foot.foot s8, h b = none := fun b hb => none_of_le Lh (m8.2.1 b hb)
  have n8_h4 : ∀ b ∈ Foot.foot s8, h4 b = none := fun b hb => none_of_le Lh4 (m8.2.1 b hb)
  replace ow5 := own_le (x := s5) le8 ok5 ow5
  replace ok5 := Enc.mono (x := s5) le8 ok5
  replace ow6 := own_le (x := s6) le8 ok6 ow6
  replace ok6 := Enc.mono (x := s6) le8 ok6
  replace ow7 := own_le (x := s7) le8 ok7 ow7
  replace ok7 := Enc.mono (x := s7) le8 ok7
  replace ok1 := Enc.mono (x := s1) le8 ok1
  replace ok2 := Enc.mono (x := s2) le8 ok2
  replace ok3 := Enc.mono (x := s3) le8 ok3
  replace Lh := Hp.le_trans Lh le8
  replace Lh4 := Hp.le_trans Lh4 le8
  have ow8 := m8.1
  repeat' first | refine T_seq_region rfl ?_ | refine T_region rfl ?_ | refine T_ret ?_ | refine T_block ?_ | refine T_skip ?_ | refine T_exit ?_ | (simp (maxSteps := 2000000) only [go_sem, Nat.reduceAdd, Nat.reduceMul, Nat.reduceBEq, Nat.reduceLeDiff, Nat.reduceLT, Nat.reduceEqDiff]; try rfl) | refine T_seq ?_ | (refine And.intro ?_ ?_; focus (intros; simp_all only [Bool.or_eq_false_iff, Bool.or_eq_true, Bool.and_eq_true, and_self, true_and, and_true]; done))
  refine vfn_val (fun _ => eqDutyS_fn _ _ _ ok8 (Enc.mono (x := s4) Lh4 ok4)) ?_
  repeat' first | refine T_seq_region rfl ?_ | refine T_region rfl ?_ | refine T_ret ?_ | refine T_block ?_ | refine T_skip ?_ | refine T_exit ?_ | (simp (maxSteps := 2000000) only [go_sem, Nat.reduceAdd, Nat.reduceMul, Nat.reduceBEq, Nat.reduceLeDiff, Nat.reduceLT, Nat.reduceEqDiff]; try rfl) | refine T_seq ?_ | (refine And.intro ?_ ?_; focus (intros; simp_all only [Bool.or_eq_false_iff, Bool.or_eq_true, Bool.and_eq_true, and_self, true_and, and_true]; done))
  refine T_cond rfl (fun c4 => ?_) (fun c4 => ?_)
  · (rw [Bool.not_eq_true'] at c4; exact (of_decide_eq_false c4 (by simp only [e1, e2, e3, e4, e5, e6, e7, e8])).elim)
  repeat' first | refine T_seq_region rfl ?_ | refine T_region rfl ?_ | refine T_ret ?_ | refine T_block ?_ | refine T_skip ?_ | refine T_exit ?_ | (simp (maxSteps := 2000000) only [go_sem, Nat.reduceAdd, Nat.reduceMul, Nat.reduceBEq, Nat.reduceLeDiff, Nat.reduceLT, Nat.reduceEqDiff]; try rfl) | refine T_seq ?_ | (refine And.intro ?_ ?_; focus (intros; simp_all only [Bool.or_eq_false_iff, Bool.or_eq_true, Bool.and_eq_true, and_self, true_and, and_true]; done))
  refine T_any rfl ?_
  refine V_takes [0, 1] rfl (by kernel_rfl) ?_
  simp (maxSteps := 2000000) only [go_sem, Nat.reduceAdd, Nat.reduceMul, Nat.reduceBEq, Nat.reduceLeDiff, Nat.reduceLT, Nat.reduceEqDiff]
  refine V_branch [2] (by kernel_rfl) (by kernel_rfl) ?_
  simp (maxSteps := 2000000) only [go_sem, Nat.reduceAdd, Nat.reduceMul, Nat.reduceBEq, Nat.reduceLeDiff, Nat.reduceLT, Nat.reduceEqDiff]
  refine vfn_at (toChart_fn _ _ (Enc.mono (x := a0) Lh oa0) hb0) rfl ?_
  rintro v h9 le9 ⟨s9, rfl, e9, ok9, m9⟩
  replace ow5 := own_le (x := s5) le9 ok5 ow5
  replace ok5 := Enc.mono (x := s5) le9 ok5
  replace ow6 := own_le (x := s6) le9 ok6 ow6
  replace ok6 := Enc.mono (x := s6) le9 ok6
  replace ow7 := own_le (x := s7) le9 ok7 ow7
  replace ok7 := Enc.mono (x := s7) le9 ok7
  replace ow8 := own_le (x := s8) le9 ok8 ow8
  replace ok8 := Enc.mono (x := s8) le9 ok8
  replace ok1 := Enc.mono (x := s1) le9 ok1
  replace ok2 := Enc.mono (x := s2) le9 ok2
  replace ok3 := Enc.mono (x := s3) le9 ok3
  replace Lh := Hp.le_trans Lh le9
  replace Lh4 := Hp.le_trans Lh4 le9
  simp (maxSteps := 2000000) only [go_sem, Nat.reduceAdd, Nat.reduceMul, Nat.reduceBEq, Nat.reduceLeDiff, Nat.reduceLT, Nat.reduceEqDiff]
  refine V_branch [3] (by kernel_rfl) (by kernel_rfl) ?_
  simp (maxSteps := 2000000) only [go_sem, Nat.reduceAdd, Nat.reduceMul, Nat.reduceBEq, Nat.reduceLeDiff, Nat.reduceLT, Nat.reduceEqDiff]
  refine vfn_val (fun _ => eqChart_fn _ _ _ ok5 ok9) ?_
  simp (maxSteps := 2000000) only [go_sem, Nat.reduceAdd, Nat.reduceMul, Nat.reduceBEq, Nat.reduceLeDiff, Nat.reduceLT, Nat.reduceEqDiff]
  refine V_takes [4] rfl (by kernel_rfl) ?_
  simp (maxSteps := 2000000) only [go_sem, Nat.reduceAdd, Nat.reduceMul, Nat.reduceBEq, Nat.reduceLeDiff, Nat.reduceLT, Nat.reduceEqDiff]
  refine V_done (by kernel_rfl) ?_
  repeat' first | refine T_seq_region rfl ?_ | refine T_region rfl ?_ | refine T_ret ?_ | refine T_block ?_ | refine T_skip ?_ | refine T_exit ?_ | (simp (maxSteps := 2000000) only [go_sem, Nat.reduceAdd, Nat.reduceMul, Nat.reduceBEq, Nat.reduceLeDiff, Nat.reduceLT, Nat.reduceEqDiff]; try rfl) | refine T_seq ?_ | (refine And.intro ?_ ?_; focus (intros; simp_all only [Bool.or_eq_false_iff, Bool.or_eq_true, Bool.and_eq_true, and_self, true_and, and_true]; done))
  refine T_cond rfl (fun c5 => ?_) (fun c5 => ?_)
  · (rw [Bool.not_eq_true'] at c5; exact (of_decide_eq_false c5 (by simp only [e1, e2, e3, e4, e5, e6, e7, e8, e9])).elim)
  repeat' first | refine T_seq_region rfl ?_ | refine T_region rfl ?_ | refine T_ret ?_ | refine T_block ?_ | refine T_skip ?_ | refine T_exit ?_ | (simp (maxSteps := 2000000) only [go_sem, Nat.reduceAdd, Nat.reduceMul, Nat.reduceBEq, Nat.reduceLeDiff, Nat.reduceLT, Nat.reduceEqDiff]; try rfl) | refine T_seq ?_ | (refine And.intro ?_ ?_; focus (intros; simp_all only [Bool.or_eq_false_iff, Bool.or_eq_true, Bool.and_eq_true, and_self, true_and, and_true]; done))
  refine vfn_at (toShipS_fn _ _ (Enc.mono (x := a1) Lh oa1) hb1) rfl ?_
  rintro v h10 le10 ⟨s10, rfl, e10, ok10, m10⟩
  replace ow5 := own_le (x := s5) le10 ok5 ow5
  replace ok5 := Enc.mono (x := s5) le10 ok5
  replace ow6 := own_le (x := s6) le10 ok6 ow6
  replace ok6 := Enc.mono (x := s6) le10 ok6
  replace ow7 := own_le (x := s7) le10 ok7 ow7
  replace ok7 := Enc.mono (x := s7) le10 ok7
  replace ow8 := own_le (x := s8) le10 ok8 ow8
  replace ok8 := Enc.mono (x := s8) le10 ok8
  replace ok1 := Enc.mono (x := s1) le10 ok1
  replace ok2 := Enc.mono (x := s2) le10 ok2
  replace ok3 := Enc.mono (x := s3) le10 ok3
  replace ok9 := Enc.mono (x := s9) le10 ok9
  replace Lh := Hp.le_trans Lh le10
  replace Lh4 := Hp.le_trans Lh4 le10
  repeat' first | refine T_seq_region rfl ?_ | refine T_region rfl ?_ | refine T_ret ?_ | refine T_block ?_ | refine T_skip ?_ | refine T_exit ?_ | (simp (maxSteps := 2000000) only [go_sem, Nat.reduceAdd, Nat.reduceMul, Nat.reduceBEq, Nat.reduceLeDiff, Nat.reduceLT, Nat.reduceEqDiff]; try rfl) | refine T_seq ?_ | (refine And.intro ?_ ?_; focus (intros; simp_all only [Bool.or_eq_false_iff, Bool.or_eq_true, Bool.and_eq_true, and_self, true_and, and_true]; done))
  refine vfn_val (fun _ => eqShipS_fn _ _ _ ok6 ok10) ?_
  repeat' first | refine T_seq_region rfl ?_ | refine T_region rfl ?_ | refine T_ret ?_ | refine T_block ?_ | refine T_skip ?_ | refine T_exit ?_ | (simp (maxSteps := 2000000) only [go_sem, Nat.reduceAdd, Nat.reduceMul, Nat.reduceBEq, Nat.reduceLeDiff, Nat.reduceLT, Nat.reduceEqDiff]; try rfl) | refine T_seq ?_ | (refine And.intro ?_ ?_; focus (intros; simp_all only [Bool.or_eq_false_iff, Bool.or_eq_true, Bool.and_eq_true, and_self, true_and, and_true]; done))
  refine T_cond rfl (fun c6 => ?_) (fun c6 => ?_)
  · (rw [Bool.not_eq_true'] at c6; exact (of_decide_eq_false c6 (by simp only [e1, e2, e3, e4, e5, e6, e7, e8, e9, e10])).elim)
  repeat' first | refine T_seq_region rfl ?_ | refine T_region rfl ?_ | refine T_ret ?_ | refine T_block ?_ | refine T_skip ?_ | refine T_exit ?_ | (simp (maxSteps := 2000000) only [go_sem, Nat.reduceAdd, Nat.reduceMul, Nat.reduceBEq, Nat.reduceLeDiff, Nat.reduceLT, Nat.reduceEqDiff]; try rfl) | refine T_seq ?_ | (refine And.intro ?_ ?_; focus (intros; simp_all only [Bool.or_eq_false_iff, Bool.or_eq_true, Bool.and_eq_true, and_self, true_and, and_true]; done))
  refine vfn_at (toPassageS_fn _ _ (Enc.mono (x := a2) Lh oa2) hb2) rfl ?_
  rintro v h11 le11 ⟨s11, rfl, e11, ok11, m11⟩
  replace ow5 := own_le (x := s5) le11 ok5 ow5
  replace ok5 := Enc.mono (x := s5) le11 ok5
  replace ow6 := own_le (x := s6) le11 ok6 ow6
  replace ok6 := Enc.mono (x := s6) le11 ok6
  replace ow7 := own_le (x := s7) le11 ok7 ow7
  replace ok7 := Enc.mono (x := s7) le11 ok7
  replace ow8 := own_le (x := s8) le11 ok8 ow8
  replace ok8 := Enc.mono (x := s8) le11 ok8
  replace ok1 := Enc.mono (x := s1) le11 ok1
  replace ok2 := Enc.mono (x := s2) le11 ok2
  replace ok3 := Enc.mono (x := s3) le11 ok3
  replace ok9 := Enc.mono (x := s9) le11 ok9
  replace ok10 := Enc.mono (x := s10) le11 ok10
  replace Lh := Hp.le_trans Lh le11
  replace Lh4 := Hp.le_trans Lh4 le11
  repeat' first | refine T_seq_region rfl ?_ | refine T_region rfl ?_ | refine T_ret ?_ | refine T_block ?_ | refine T_skip ?_ | refine T_exit ?_ | (simp (maxSteps := 2000000) only [go_sem, Nat.reduceAdd, Nat.reduceMul, Nat.reduceBEq, Nat.reduceLeDiff, Nat.reduceLT, Nat.reduceEqDiff]; try rfl) | refine T_seq ?_ | (refine And.intro ?_ ?_; focus (intros; simp_all only [Bool.or_eq_false_iff, Bool.or_eq_true, Bool.and_eq_true, and_self, true_and, and_true]; done))
  refine vfn_val (fun _ => eqPassageS_fn _ _ _ ok7 ok11) ?_
  repeat' first | refine T_seq_region rfl ?_ | refine T_region rfl ?_ | refine T_ret ?_ | refine T_block ?_ | refine T_skip ?_ | refine T_exit ?_ | (simp (maxSteps := 2000000) only [go_sem, Nat.reduceAdd, Nat.reduceMul, Nat.reduceBEq, Nat.reduceLeDiff, Nat.reduceLT, Nat.reduceEqDiff]; try rfl) | refine T_seq ?_ | (refine And.intro ?_ ?_; focus (intros; simp_all only [Bool.or_eq_false_iff, Bool.or_eq_true, Bool.and_eq_true, and_self, true_and, and_true]; done))
  refine T_cond rfl (fun c7 => ?_) (fun c7 => ?_)
  · (rw [Bool.not_eq_true'] at c7; exact (of_decide_eq_false c7 (by simp only [e1, e2, e3, e4, e5, e6, e7, e8, e9, e10, e11])).elim)
  refine T_skip ?_
  simp (maxSteps := 2000000) only [go_sem, Nat.reduceAdd, Nat.reduceMul, Nat.reduceBEq, Nat.reduceLeDiff, Nat.reduceLT, Nat.reduceEqDiff]
  refine T_seq_region rfl ?_
  simp (maxSteps := 2000000) only [go_sem, Nat.reduceAdd, Nat.reduceMul, Nat.reduceBEq, Nat.reduceLeDiff, Nat.reduceLT, Nat.reduceEqDiff]
  refine T_seq_regionX [0, 0, 1] rfl ?_
  simp (maxSteps := 2000000) only [go_sem, Nat.reduceAdd, Nat.reduceMul, Nat.reduceBEq, Nat.reduceLeDiff, Nat.reduceLT, Nat.reduceEqDiff]
  have cn12 : cntv_DChart s5 ≤ 6 * 1048576 := cntv_le_DChart rfl (blk_sz e5 hb0)
  refine vfnW_at (x := ⟨Try.prog, W0, h, _⟩) (markChart_fn s5 (1 : Int) _ ok5 ow5 m5.2.2 (by omega)) rfl (fun b hb => ⟨Foot.dom (x := s5) ow5 b hb, .inl (n5_h b hb)⟩) ?_
  rintro v h12 kp12 ⟨rfl, ok12, ow12⟩
  replace ow6 := (ok_keep (x := s6) ok6 ow6 d6_5 kp12)
  have ok6' := ow6.1
  clear ok6
  have ok6 := ok6'
  clear ok6'
  replace ow6 := ow6.2
  replace ow7 := (ok_keep (x := s7) ok7 ow7 d7_5 kp12)
  have ok7' := ow7.1
  clear ok7
  have ok7 := ok7'
  clear ok7'
  replace ow7 := ow7.2
  replace ow8 := (ok_keep (x := s8) ok8 ow8 d8_5 kp12)
  have ok8' := ow8.1
  clear ok8
  have ok8 := ok8'
  clear ok8'
  replace ow8 := ow8.2
  replace Lh := le_keep' Lh n5_h kp12
  replace Lh4 := le_keep' Lh4 n5_h4 kp12
  simp (maxSteps := 2000000) only [go_sem, Nat.reduceAdd, Nat.reduceMul, Nat.reduceBEq, Nat.reduceLeDiff, Nat.reduceLT, Nat.reduceEqDiff]
  refine T_seq_regionX [0, 0, 1] rfl ?_
  simp (maxSteps := 2000000) only [go_sem, Nat.reduceAdd, Nat.reduceMul, Nat.reduceBEq, Nat.reduceLeDiff, Nat.reduceLT, Nat.reduceEqDiff]
  have cn13 : Mk.cnt s6 ≤ 6 * 1048576 := cnt_le rfl (blk_sz e6 hb1)
  refine vfnW_at (x := ⟨Try.prog, W0, h, _⟩) (markShipS_fn s6 ((1 : Int) + (cntv_DChart s5 : Nat)) _ ok6 ow6 m6.2.2 (by omega)) rfl (fun b hb => ⟨Foot.dom (x := s6) ow6 b hb, .inl (n6_h b hb)⟩) ?_
  rintro v h13 kp13 ⟨rfl, ok13, ow13⟩
  replace ow12 := (ok_keep (x := (mkv_DChart s5 (1 : Int))) ok12 ow12 (fun b hb hu => d6_5 b hu (by first | exact hb | (rw [MkOk.foot] at hb; exact hb) | (rw [foot_mkv_DChart] at hb; exact hb))) kp13)
  have ok12' := ow12.1
  clear ok12
  have ok12 := ok12'
  clear ok12'
  replace ow12 := ow12.2
  replace ow7 := (ok_keep (x := s7) ok7 ow7 d7_6 kp13)
  have ok7' := ow7.1
  clear ok7
  have ok7 := ok7'
  clear ok7'
  replace ow7 := ow7.2
  replace ow8 := (ok_keep (x := s8) ok8 ow8 d8_6 kp13)
  have ok8' := ow8.1
  clear ok8
  have ok8 := ok8'
  clear ok8'
  replace ow8 := ow8.2
  replace Lh := le_keep' Lh n6_h kp13
  replace Lh4 := le_keep' Lh4 n6_h4 kp13
  simp (maxSteps := 2000000) only [go_sem, Nat.reduceAdd, Nat.reduceMul, Nat.reduceBEq, Nat.reduceLeDiff, Nat.reduceLT, Nat.reduceEqDiff]
  refine T_seq_regionX [0, 0, 1] rfl ?_
  simp (maxSteps := 2000000) only [go_sem, Nat.reduceAdd, Nat.reduceMul, Nat.reduceBEq, Nat.reduceLeDiff, Nat.reduceLT, Nat.reduceEqDiff]
  have cn14 : Mk.cnt s7 ≤ 6 * 1048576 := cnt_le rfl (blk_sz e7 hb2)
  refine vfnW_at (x := ⟨Try.prog, W0, h, _⟩) (markPassageS_fn s7 (((1 : Int) + (cntv_DChart s5 : Nat)) + (Mk.cnt s6 : Nat)) _ ok7 ow7 m7.2.2 (by omega)) rfl (fun b hb => ⟨Foot.dom (x := s7) ow7 b hb, .inl (n7_h b hb)⟩) ?_
  rintro v h14 kp14 ⟨rfl, ok14, ow14⟩
  replace ow12 := (ok_keep (x := (mkv_DChart s5 (1 : Int))) ok12 ow12 (fun b hb hu => d7_5 b hu (by first | exact hb | (rw [MkOk.foot] at hb; exact hb) | (rw [foot_mkv_DChart] at hb; exact hb))) kp14)
  have ok12' := ow12.1
  clear ok12
  have ok12 := ok12'
  clear ok12'
  replace ow12 := ow12.2
  replace ow13 := (ok_keep (x := (Mk.put s6 ((1 : Int) + (cntv_DChart s5 : Nat)))) ok13 ow13 (fun b hb hu => d7_6 b hu (by first | exact hb | (rw [MkOk.foot] at hb; exact hb))) kp14)
  have ok13' := ow13.1
  clear ok13
  have ok13 := ok13'
  clear ok13'
  replace ow13 := ow13.2
  replace ow8 := (ok_keep (x := s8) ok8 ow8 d8_7 kp14)
  have ok8' := ow8.1
  clear ok8
  have ok8 := ok8'
  clear ok8'
  replace ow8 := ow8.2
  replace Lh := le_keep' Lh n7_h kp14
  replace Lh4 := le_keep' Lh4 n7_h4 kp14
  simp (maxSteps := 2000000) only [go_sem, Nat.reduceAdd, Nat.reduceMul, Nat.reduceBEq, Nat.reduceLeDiff, Nat.reduceLT, Nat.reduceEqDiff]
  repeat' first | refine T_seq_region rfl ?_ | refine T_region rfl ?_ | refine T_ret ?_ | refine T_block ?_ | refine T_skip ?_ | refine T_exit ?_ | (simp (maxSteps := 2000000) only [go_sem, Nat.reduceAdd, Nat.reduceMul, Nat.reduceBEq, Nat.reduceLeDiff, Nat.reduceLT, Nat.reduceEqDiff]; try rfl) | refine T_seq ?_ | (refine And.intro ?_ ?_; focus (intros; simp_all only [Bool.or_eq_false_iff, Bool.or_eq_true, Bool.and_eq_true, and_self, true_and, and_true]; done))
  refine vfn_val (fun _ => eqDutyS_fn _ _ _ ok8 (Enc.mono (x := s4) Lh4 ok4)) ?_
  repeat' first | refine T_seq_region rfl ?_ | refine T_region rfl ?_ | refine T_ret ?_ | refine T_block ?_ | refine T_skip ?_ | refine T_exit ?_ | (simp (maxSteps := 2000000) only [go_sem, Nat.reduceAdd, Nat.reduceMul, Nat.reduceBEq, Nat.reduceLeDiff, Nat.reduceLT, Nat.reduceEqDiff]; try rfl) | refine T_seq ?_ | (refine And.intro ?_ ?_; focus (intros; simp_all only [Bool.or_eq_false_iff, Bool.or_eq_true, Bool.and_eq_true, and_self, true_and, and_true]; done))
  refine T_cond rfl (fun c8 => ?_) (fun c8 => ?_)
  · simp only [Bool.or_eq_true] at c8
    rcases c8 with c8 | c8
    · (exact absurd (of_decide_eq_true c8) (by omega))
    · (rw [Bool.not_eq_true'] at c8; exact (of_decide_eq_false c8 (by simp only [e1, e2, e3, e4, e5, e6, e7, e8, e9, e10, e11])).elim)
  refine T_skip ?_
  simp (maxSteps := 2000000) only [go_sem, Nat.reduceAdd, Nat.reduceMul, Nat.reduceBEq, Nat.reduceLeDiff, Nat.reduceLT, Nat.reduceEqDiff]
  refine T_seq_region rfl ?_
  simp (maxSteps := 2000000) only [go_sem, Nat.reduceAdd, Nat.reduceMul, Nat.reduceBEq, Nat.reduceLeDiff, Nat.reduceLT, Nat.reduceEqDiff]
  refine T_seq_regionX [0, 0, 1] rfl ?_
  simp (maxSteps := 2000000) only [go_sem, Nat.reduceAdd, Nat.reduceMul, Nat.reduceBEq, Nat.reduceLeDiff, Nat.reduceLT, Nat.reduceEqDiff]
  have cn15 : Mk.cnt s8 ≤ 6 * 1048576 := cnt_le e8 (sz_F_TugDuties _ _ _)
  refine vfnW_at (x := ⟨Try.prog, W0, h, _⟩) (markDutyS_fn s8 (1 : Int) _ ok8 ow8 m8.2.2 (by omega)) rfl (fun b hb => ⟨Foot.dom (x := s8) ow8 b hb, .inl (n8_h b hb)⟩) ?_
  rintro v h15 kp15 ⟨rfl, ok15, ow15⟩
  replace ow12 := (ok_keep (x := (mkv_DChart s5 (1 : Int))) ok12 ow12 (fun b hb hu => d8_5 b hu (by first | exact hb | (rw [MkOk.foot] at hb; exact hb) | (rw [foot_mkv_DChart] at hb; exact hb))) kp15)
  have ok12' := ow12.1
  clear ok12
  have ok12 := ok12'
  clear ok12'
  replace ow12 := ow12.2
  replace ow13 := (ok_keep (x := (Mk.put s6 ((1 : Int) + (cntv_DChart s5 : Nat)))) ok13 ow13 (fun b hb hu => d8_6 b hu (by first | exact hb | (rw [MkOk.foot] at hb; exact hb))) kp15)
  have ok13' := ow13.1
  clear ok13
  have ok13 := ok13'
  clear ok13'
  replace ow13 := ow13.2
  replace ow14 := (ok_keep (x := (Mk.put s7 (((1 : Int) + (cntv_DChart s5 : Nat)) + (Mk.cnt s6 : Nat)))) ok14 ow14 (fun b hb hu => d8_7 b hu (by first | exact hb | (rw [MkOk.foot] at hb; exact hb))) kp15)
  have ok14' := ow14.1
  clear ok14
  have ok14 := ok14'
  clear ok14'
  replace ow14 := ow14.2
  replace Lh := le_keep' Lh n8_h kp15
  replace Lh4 := le_keep' Lh4 n8_h4 kp15
  simp (maxSteps := 2000000) only [go_sem, Nat.reduceAdd, Nat.reduceMul, Nat.reduceBEq, Nat.reduceLeDiff, Nat.reduceLT, Nat.reduceEqDiff]
  repeat' first | refine T_seq_region rfl ?_ | refine T_region rfl ?_ | refine T_ret ?_ | refine T_block ?_ | refine T_skip ?_ | refine T_exit ?_ | (simp (maxSteps := 2000000) only [go_sem, Nat.reduceAdd, Nat.reduceMul, Nat.reduceBEq, Nat.reduceLeDiff, Nat.reduceLT, Nat.reduceEqDiff]; try rfl) | refine T_seq ?_ | (refine And.intro ?_ ?_; focus (intros; simp_all only [Bool.or_eq_false_iff, Bool.or_eq_true, Bool.and_eq_true, and_self, true_and, and_true]; done))
  have hh1 := heldDutyS_fn (Mk.put s8 (1 : Int)) 1 h15 ok15 (mkL_idem (l := s8.l)) (by have h0 := cn15; have h1 := MkOk.cnt s8 (1 : Int); (try rw [h1]); omega)
  rw [put_val] at hh1
  refine vfn_val (fun _ => hh1) ?_
  repeat' first | refine T_seq_region rfl ?_ | refine T_region rfl ?_ | refine T_ret ?_ | refine T_block ?_ | refine T_skip ?_ | refine T_exit ?_ | (simp (maxSteps := 2000000) only [go_sem, Nat.reduceAdd, Nat.reduceMul, Nat.reduceBEq, Nat.reduceLeDiff, Nat.reduceLT, Nat.reduceEqDiff]; try rfl) | refine T_seq ?_ | (refine And.intro ?_ ?_; focus (intros; simp_all only [Bool.or_eq_false_iff, Bool.or_eq_true, Bool.and_eq_true, and_self, true_and, and_true]; done))
  refine T_cond rfl (fun c9 => ?_) (fun c9 => ?_)
  · (exact absurd (of_decide_eq_true c9) (by omega))
  repeat' first | refine T_seq_region rfl ?_ | refine T_region rfl ?_ | refine T_ret ?_ | refine T_block ?_ | refine T_skip ?_ | refine T_exit ?_ | (simp (maxSteps := 2000000) only [go_sem, Nat.reduceAdd, Nat.reduceMul, Nat.reduceBEq, Nat.reduceLeDiff, Nat.reduceLT, Nat.reduceEqDiff]; try rfl) | refine T_seq ?_ | (refine And.intro ?_ ?_; focus (intros; simp_all only [Bool.or_eq_false_iff, Bool.or_eq_true, Bool.and_eq_true, and_self, true_and, and_true]; done))
  refine T_cond rfl (fun c10 => ?_) (fun c10 => ?_)
  · (exact absurd (by first | rfl | rw [MkOk.cnt] | (simp only [MkOk.cnt])) (ne_of_bne c10))
  repeat' first | refine T_seq_region rfl ?_ | refine T_region rfl ?_ | refine T_ret ?_ | refine T_block ?_ | refine T_skip ?_ | refine T_exit ?_ | (simp (maxSteps := 2000000) only [go_sem, Nat.reduceAdd, Nat.reduceMul, Nat.reduceBEq, Nat.reduceLeDiff, Nat.reduceLT, Nat.reduceEqDiff]; try rfl) | refine T_seq ?_ | (refine And.intro ?_ ?_; focus (intros; simp_all only [Bool.or_eq_false_iff, Bool.or_eq_true, Bool.and_eq_true, and_self, true_and, and_true]; done))
  refine vfn_at (toChart_fn _ _ (Enc.mono (x := a0) Lh oa0) hb0) rfl ?_
  rintro v h16 le16 ⟨s16, rfl, e16, ok16, m16⟩
  replace ow12 := own_le (x := (mkv_DChart s5 (1 : Int))) le16 ok12 ow12
  replace ok12 := Enc.mono (x := (mkv_DChart s5 (1 : Int))) le16 ok12
  replace ow13 := own_le (x := (Mk.put s6 ((1 : Int) + (cntv_DChart s5 : Nat)))) le16 ok13 ow13
  replace ok13 := Enc.mono (x := (Mk.put s6 ((1 : Int) + (cntv_DChart s5 : Nat)))) le16 ok13
  replace ow14 := own_le (x := (Mk.put s7 (((1 : Int) + (cntv_DChart s5 : Nat)) + (Mk.cnt s6 : Nat)))) le16 ok14 ow14
  replace ok14 := Enc.mono (x := (Mk.put s7 (((1 : Int) + (cntv_DChart s5 : Nat)) + (Mk.cnt s6 : Nat)))) le16 ok14
  replace ow15 := own_le (x := (Mk.put s8 (1 : Int))) le16 ok15 ow15
  replace ok15 := Enc.mono (x := (Mk.put s8 (1 : Int))) le16 ok15
  replace Lh := Hp.le_trans Lh le16
  replace Lh4 := Hp.le_trans Lh4 le16
  repeat' first | refine T_seq_region rfl ?_ | refine T_region rfl ?_ | refine T_ret ?_ | refine T_block ?_ | refine T_skip ?_ | refine T_exit ?_ | (simp (maxSteps := 2000000) only [go_sem, Nat.reduceAdd, Nat.reduceMul, Nat.reduceBEq, Nat.reduceLeDiff, Nat.reduceLT, Nat.reduceEqDiff]; try rfl) | refine T_seq ?_ | (refine And.intro ?_ ?_; focus (intros; simp_all only [Bool.or_eq_false_iff, Bool.or_eq_true, Bool.and_eq_true, and_self, true_and, and_true]; done))
  refine vfn_at (toShipS_fn _ _ (Enc.mono (x := a1) Lh oa1) hb1) rfl ?_
  rintro v h17 le17 ⟨s17, rfl, e17, ok17, m17⟩
  replace ow12 := own_le (x := (mkv_DChart s5 (1 : Int))) le17 ok12 ow12
  replace ok12 := Enc.mono (x := (mkv_DChart s5 (1 : Int))) le17 ok12
  replace ow13 := own_le (x := (Mk.put s6 ((1 : Int) + (cntv_DChart s5 : Nat)))) le17 ok13 ow13
  replace ok13 := Enc.mono (x := (Mk.put s6 ((1 : Int) + (cntv_DChart s5 : Nat)))) le17 ok13
  replace ow14 := own_le (x := (Mk.put s7 (((1 : Int) + (cntv_DChart s5 : Nat)) + (Mk.cnt s6 : Nat)))) le17 ok14 ow14
  replace ok14 := Enc.mono (x := (Mk.put s7 (((1 : Int) + (cntv_DChart s5 : Nat)) + (Mk.cnt s6 : Nat)))) le17 ok14
  replace ow15 := own_le (x := (Mk.put s8 (1 : Int))) le17 ok15 ow15
  replace ok15 := Enc.mono (x := (Mk.put s8 (1 : Int))) le17 ok15
  replace ok16 := Enc.mono (x := s16) le17 ok16
  replace Lh := Hp.le_trans Lh le17
  replace Lh4 := Hp.le_trans Lh4 le17
  repeat' first | refine T_seq_region rfl ?_ | refine T_region rfl ?_ | refine T_ret ?_ | refine T_block ?_ | refine T_skip ?_ | refine T_exit ?_ | (simp (maxSteps := 2000000) only [go_sem, Nat.reduceAdd, Nat.reduceMul, Nat.reduceBEq, Nat.reduceLeDiff, Nat.reduceLT, Nat.reduceEqDiff]; try rfl) | refine T_seq ?_ | (refine And.intro ?_ ?_; focus (intros; simp_all only [Bool.or_eq_false_iff, Bool.or_eq_true, Bool.and_eq_true, and_self, true_and, and_true]; done))
  refine vfn_at (toPassageS_fn _ _ (Enc.mono (x := a2) Lh oa2) hb2) rfl ?_
  rintro v h18 le18 ⟨s18, rfl, e18, ok18, m18⟩
  replace ow12 := own_le (x := (mkv_DChart s5 (1 : Int))) le18 ok12 ow12
  replace ok12 := Enc.mono (x := (mkv_DChart s5 (1 : Int))) le18 ok12
  replace ow13 := own_le (x := (Mk.put s6 ((1 : Int) + (cntv_DChart s5 : Nat)))) le18 ok13 ow13
  replace ok13 := Enc.mono (x := (Mk.put s6 ((1 : Int) + (cntv_DChart s5 : Nat)))) le18 ok13
  replace ow14 := own_le (x := (Mk.put s7 (((1 : Int) + (cntv_DChart s5 : Nat)) + (Mk.cnt s6 : Nat)))) le18 ok14 ow14
  replace ok14 := Enc.mono (x := (Mk.put s7 (((1 : Int) + (cntv_DChart s5 : Nat)) + (Mk.cnt s6 : Nat)))) le18 ok14
  replace ow15 := own_le (x := (Mk.put s8 (1 : Int))) le18 ok15 ow15
  replace ok15 := Enc.mono (x := (Mk.put s8 (1 : Int))) le18 ok15
  replace ok16 := Enc.mono (x := s16) le18 ok16
  replace ok17 := Enc.mono (x := s17) le18 ok17
  replace Lh := Hp.le_trans Lh le18
  replace Lh4 := Hp.le_trans Lh4 le18
  repeat' first | refine T_seq_region rfl ?_ | refine T_region rfl ?_ | refine T_ret ?_ | refine T_block ?_ | refine T_skip ?_ | refine T_exit ?_ | (simp (maxSteps := 2000000) only [go_sem, Nat.reduceAdd, Nat.reduceMul, Nat.reduceBEq, Nat.reduceLeDiff, Nat.reduceLT, Nat.reduceEqDiff]; try rfl) | refine T_seq ?_ | (refine And.intro ?_ ?_; focus (intros; simp_all only [Bool.or_eq_false_iff, Bool.or_eq_true, Bool.and_eq_true, and_self, true_and, and_true]; done))
  refine vfn_at (impl_TugDuties_fn _ _ _ _ ok16 ok17 ok18) rfl ?_
  rintro v h19 le19 ⟨s19, rfl, e19, ok19, m19⟩
  replace ow12 := own_le (x := (mkv_DChart s5 (1 : Int))) le19 ok12 ow12
  replace ok12 := Enc.mono (x := (mkv_DChart s5 (1 : Int))) le19 ok12
  replace ow13 := own_le (x := (Mk.put s6 ((1 : Int) + (cntv_DChart s5 : Nat)))) le19 ok13 ow13
  replace ok13 := Enc.mono (x := (Mk.put s6 ((1 : Int) + (cntv_DChart s5 : Nat)))) le19 ok13
  replace ow14 := own_le (x := (Mk.put s7 (((1 : Int) + (cntv_DChart s5 : Nat)) + (Mk.cnt s6 : Nat)))) le19 ok14 ow14
  replace ok14 := Enc.mono (x := (Mk.put s7 (((1 : Int) + (cntv_DChart s5 : Nat)) + (Mk.cnt s6 : Nat)))) le19 ok14
  replace ow15 := own_le (x := (Mk.put s8 (1 : Int))) le19 ok15 ow15
  replace ok15 := Enc.mono (x := (Mk.put s8 (1 : Int))) le19 ok15
  replace ok16 := Enc.mono (x := s16) le19 ok16
  replace ok17 := Enc.mono (x := s17) le19 ok17
  replace ok18 := Enc.mono (x := s18) le19 ok18
  replace Lh := Hp.le_trans Lh le19
  replace Lh4 := Hp.le_trans Lh4 le19
  repeat' first | refine T_seq_region rfl ?_ | refine T_region rfl ?_ | refine T_ret ?_ | refine T_block ?_ | refine T_skip ?_ | refine T_exit ?_ | (simp (maxSteps := 2000000) only [go_sem, Nat.reduceAdd, Nat.reduceMul, Nat.reduceBEq, Nat.reduceLeDiff, Nat.reduceLT, Nat.reduceEqDiff]; try rfl) | refine T_seq ?_ | (refine And.intro ?_ ?_; focus (intros; simp_all only [Bool.or_eq_false_iff, Bool.or_eq_true, Bool.and_eq_true, and_self, true_and, and_true]; done))
  refine vfn_val (fun _ => eqDutyS_fn _ _ _ ok19 (Enc.mono (x := s4) Lh4 ok4)) ?_
  repeat' first | refine T_seq_region rfl ?_ | refine T_region rfl ?_ | refine T_ret ?_ | refine T_block ?_ | refine T_skip ?_ | refine T_exit ?_ | (simp (maxSteps := 2000000) only [go_sem, Nat.reduceAdd, Nat.reduceMul, Nat.reduceBEq, Nat.reduceLeDiff, Nat.reduceLT, Nat.reduceEqDiff]; try rfl) | refine T_seq ?_ | (refine And.intro ?_ ?_; focus (intros; simp_all only [Bool.or_eq_false_iff, Bool.or_eq_true, Bool.and_eq_true, and_self, true_and, and_true]; done))
  refine T_cond rfl (fun c11 => ?_) (fun c11 => ?_)
  · (rw [Bool.not_eq_true'] at c11; exact (of_decide_eq_false c11 (by simp only [e1, e2, e3, e4, e5, e6, e7, e8, e9, e10, e11, e16, e17, e18, e19])).elim)
  repeat' first | refine T_seq_region rfl ?_ | refine T_region rfl ?_ | refine T_ret ?_ | refine T_block ?_ | refine T_skip ?_ | refine T_exit ?_ | (simp (maxSteps := 2000000) only [go_sem, Nat.reduceAdd, Nat.reduceMul, Nat.reduceBEq, Nat.reduceLeDiff, Nat.reduceLT, Nat.reduceEqDiff]; try rfl) | refine T_seq ?_ | (refine And.intro ?_ ?_; focus (intros; simp_all only [Bool.or_eq_false_iff, Bool.or_eq_true, Bool.and_eq_true, and_self, true_and, and_true]; done))
  have hh2 := heldDutyS_fn (Mk.put s8 (1 : Int)) 1 h19 ok15 (mkL_idem (l := s8.l)) (by have h0 := cn15; have h1 := MkOk.cnt s8 (1 : Int); (try rw [h1]); omega)
  rw [put_val] at hh2
  refine vfn_val (fun _ => hh2) ?_
  repeat' first | refine T_seq_region rfl ?_ | refine T_region rfl ?_ | refine T_ret ?_ | refine T_block ?_ | refine T_skip ?_ | refine T_exit ?_ | (simp (maxSteps := 2000000) only [go_sem, Nat.reduceAdd, Nat.reduceMul, Nat.reduceBEq, Nat.reduceLeDiff, Nat.reduceLT, Nat.reduceEqDiff]; try rfl) | refine T_seq ?_ | (refine And.intro ?_ ?_; focus (intros; simp_all only [Bool.or_eq_false_iff, Bool.or_eq_true, Bool.and_eq_true, and_self, true_and, and_true]; done))
  refine T_cond rfl (fun c12 => ?_) (fun c12 => ?_)
  · (exact absurd (of_decide_eq_true c12) (by omega))
  repeat' first | refine T_seq_region rfl ?_ | refine T_region rfl ?_ | refine T_ret ?_ | refine T_block ?_ | refine T_skip ?_ | refine T_exit ?_ | (simp (maxSteps := 2000000) only [go_sem, Nat.reduceAdd, Nat.reduceMul, Nat.reduceBEq, Nat.reduceLeDiff, Nat.reduceLT, Nat.reduceEqDiff]; try rfl) | refine T_seq ?_ | (refine And.intro ?_ ?_; focus (intros; simp_all only [Bool.or_eq_false_iff, Bool.or_eq_true, Bool.and_eq_true, and_self, true_and, and_true]; done))
  refine T_cond rfl (fun c13 => ?_) (fun c13 => ?_)
  · (exact absurd (by first | rfl | rw [MkOk.cnt] | (simp only [MkOk.cnt])) (ne_of_bne c13))
  repeat' first | refine T_seq_region rfl ?_ | refine T_region rfl ?_ | refine T_ret ?_ | refine T_block ?_ | refine T_skip ?_ | refine T_exit ?_ | (simp (maxSteps := 2000000) only [go_sem, Nat.reduceAdd, Nat.reduceMul, Nat.reduceBEq, Nat.reduceLeDiff, Nat.reduceLT, Nat.reduceEqDiff]; try rfl) | refine T_seq ?_ | (refine And.intro ?_ ?_; focus (intros; simp_all only [Bool.or_eq_false_iff, Bool.or_eq_true, Bool.and_eq_true, and_self, true_and, and_true]; done))
set_option maxRecDepth 100000 in
theorem TugDuties_lifted (os : Os) (started : os.Started) (H : Type) (enc : TypeId × Value → H) :
    ReturnsInHanded {} Try.checked os 8 .any (Rows.fnExactTugDutiesSpec.pre6 enc Try.prog Try.f8 Rows.fnExactTugDutiesRow.domain false) (Rows.fnExactTugDutiesSpec.post enc Try.prog Try.f8 false true false false) := by
  refine returnsInHanded_of_change (C := Try.checked) Try.own started (by kernel_rfl) Try.func8
    (ChangeSpec.witness6 (enc := enc) (C := Try.checked) false ⟨#[], #[.agg #[.slice none 0 0, .slice none 0 0], .slice none 0 0, .slice none 0 0], []⟩ 8 (by kernel_rfl) (by kernel_rfl) (by kernel_rfl) (by kernel_rfl)) ?_
  intro W base args ds gs before hval0 hW hcnd _
  have hval : ∀ (j : Nat) t v, Try.f8.params[j]? = some t → args[j]? = some v → Value.okWide Try.prog W .any base t v := hval0
  have hW' := hW
  obtain ⟨p, q, hA0, hV, rfl, hfz, hnd⟩ := hW
  have hA : DataW.TrodAll enc Try.prog W 0 (fun _ => true) true Try.f8.params.toList args.toList ds p := hA0
  rw [Try.params8] at hA hval
  obtain ⟨args⟩ := args
  obtain ⟨rfl, rfl⟩ := trodVars_none hV
  have hA9 := hA
  obtain ⟨v0, vs0, d0, ds0, p0, q0, ev0, rfl, rfl, k0, r0⟩ := trodAll_cons hA
  obtain ⟨v1, vs1, d1, ds1, p1, q1, ev1, rfl, rfl, k1, r1⟩ := trodAll_cons r0
  obtain ⟨v2, vs2, d2, ds2, p2, q2, ev2, rfl, rfl, k2, r2⟩ := trodAll_cons r1
  obtain ⟨ev3, rfl, rfl⟩ := trodAll_nil r2
  simp only at ev0 ev1 ev2 ev3
  subst ev3
  subst ev2
  subst ev1
  subst ev0
  obtain ⟨a0, rfl, oa0⟩ := open1_struct Try.underlying49 opens_Chart (hval 0 _ v0 rfl rfl) k0
  obtain ⟨a1, rfl, oa1⟩ := open1_slice Try.underlying50 opens_ShipS (hval 1 _ v1 rfl rfl) k1
  obtain ⟨a2, rfl, oa2⟩ := open1_slice Try.underlying51 opens_PassageS (hval 2 _ v2 rfl rfl) k2
  simp only [List.append_nil] at hW' hA9
  have hct := FnExactTugDuties_fn a0 a1 a2 (vw W) oa0 oa1 oa2
  unfold Ct at hct
  refine (hct.2 W (sees_vw W)).mono fun e W' ⟨v, h', he, hv, hb, _⟩ => ?_
  subst he hv
  have hlt : ∀ x ∈ (p0 ++ (p1 ++ (p2))), x.block < W.heap.size := fun x hx => hW'.lt x hx
  exact ⟨_, rfl, post_law hW' hb (fun _ => rfl) (fun _ _ _ => trodAll_mk1 (shut_bool Try.underlying4 true))
    (fun sp hsp => trodAll_stays Try.laidOut hb (by kernel_rfl) hlt hsp hA9)⟩
theorem FnExactTugDuties_holds : Rows.FnExactTugDutiesSaid :=
  OpenClaim.holds_of_wide 8 Try.f8 rfl rfl rfl rfl rfl rfl rfl ⟨rfl, rfl, rfl, rfl, rfl⟩ rfl rfl rfl rfl rfl (by kernel_rfl) Try.func8 (by kernel_rfl)
    (of_decide_eq_true (by kernel_rfl)) (by unfold Func.isWrapper; rw [if_neg (of_decide_eq_false (by kernel_rfl))]; exact ⟨rfl, rfl⟩)
    (fun os started H enc _ => TugDuties_lifted os started H enc)
end Go.Proofs.Ytfbdafdbinbeaaa
