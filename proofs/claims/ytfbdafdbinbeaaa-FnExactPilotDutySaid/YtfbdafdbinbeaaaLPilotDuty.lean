/- The walk of a law of the given program, and the law itself as it is stated: it holds of every input. No condition. -/
import Derived.Test.YtfbdafdbinbeaaaFsz
import Derived.Test.YtfbdafdbinbeaaaFto
import Derived.Test.YtfbdafdbinbeaaaFeq
import Derived.Test.YtfbdafdbinbeaaaDut
import Derived.Test.YtfbdafdbinbeaaaOp
import Derived.Test.YtfbdafdbinbeaaaRows
set_option linter.unusedVariables false
set_option linter.unusedSimpArgs false
namespace Go.Proofs.Ytfbdafdbinbeaaa
open Go Go.SL Go.RowKit Go.ChangeShapes Go.WideShapes Go.ChangeAt
set_option maxHeartbeats 1000000
set_option maxRecDepth 100000 in
theorem FnExactPilotDuty_fn (a0 : DChart) (a1 : Sl DShip) (a2 : Sl DPassage) (h : Hp) (oa0 : Enc.ok h a0) (oa1 : Enc.ok h a1) (oa2 : Enc.ok h a2) : Ct Try.prog 7 [.agg #[a0.points.val, a0.segments.val], a1.val, a2.val] h fun v h' => v = .bool true := by
  refine Ct_of_T (fun A W => by simp) Try.func7 rfl rfl (by simp) fun W0 => ?_
  repeat' first | refine T_seq_region rfl ?_ | refine T_region rfl ?_ | refine T_ret ?_ | refine T_block ?_ | refine T_skip ?_ | refine T_exit ?_ | (simp (maxSteps := 2000000) only [go_sem, Nat.reduceAdd, Nat.reduceMul, Nat.reduceBEq, Nat.reduceLeDiff, Nat.reduceLT, Nat.reduceEqDiff]; try rfl) | refine T_seq ?_ | (refine And.intro ?_ ?_; focus (intros; simp_all only [Bool.or_eq_false_iff, Bool.or_eq_true, Bool.and_eq_true, and_self, true_and, and_true]; done))
  refine vfn_val (fun _ => szChart_fn _ _ _ oa0 (by omega)) ?_
  repeat' first | refine T_seq_region rfl ?_ | refine T_region rfl ?_ | refine T_ret ?_ | refine T_block ?_ | refine T_skip ?_ | refine T_exit ?_ | (simp (maxSteps := 2000000) only [go_sem, Nat.reduceAdd, Nat.reduceMul, Nat.reduceBEq, Nat.reduceLeDiff, Nat.reduceLT, Nat.reduceEqDiff]; try rfl) | refine T_seq ?_ | (refine And.intro ?_ ?_; focus (intros; simp_all only [Bool.or_eq_false_iff, Bool.or_eq_true, Bool.and_eq_true, and_self, true_and, and_true]; done))
  refine T_cond rfl (fun c1 => ?_) (fun c1 => ?_)
  · repeat' first | refine T_seq_region rfl ?_ | refine T_region rfl ?_ | refine T_ret ?_ | refine T_block ?_ | refine T_skip ?_ | refine T_exit ?_ | (simp (maxSteps := 2000000) only [go_sem, Nat.reduceAdd, Nat.reduceMul, Nat.reduceBEq, Nat.reduceLeDiff, Nat.reduceLT, Nat.reduceEqDiff]; try rfl) | refine T_seq ?_ | (refine And.intro ?_ ?_; focus (intros; simp_all only [Bool.or_eq_false_iff, Bool.or_eq_true, Bool.and_eq_true, and_self, true_and, and_true]; done))
  have hp0 := lo_ge c1
  have hn0 := lo_in (show (0:Int) ≤ 1048576 ∧ (1048576:Int) ≤ 1048576 by omega) hp0
  have hb0 : Blk.blk a0 ≤ 1048576 := by have h1 := lo_fit hp0; have h2 := (show (0:Int) ≤ 1048576 ∧ (1048576:Int) ≤ 1048576 by omega); omega
  repeat' first | refine T_seq_region rfl ?_ | refine T_region rfl ?_ | refine T_ret ?_ | refine T_block ?_ | refine T_skip ?_ | refine T_exit ?_ | (simp (maxSteps := 2000000) only [go_sem, Nat.reduceAdd, Nat.reduceMul, Nat.reduceBEq, Nat.reduceLeDiff, Nat.reduceLT, Nat.reduceEqDiff]; try rfl) | refine T_seq ?_ | (refine And.intro ?_ ?_; focus (intros; simp_all only [Bool.or_eq_false_iff, Bool.or_eq_true, Bool.and_eq_true, and_self, true_and, and_true]; done))
  refine vfn_val (fun _ => szShipS_fn _ _ _ oa1 hn0) ?_
  repeat' first | refine T_seq_region rfl ?_ | refine T_region rfl ?_ | refine T_ret ?_ | refine T_block ?_ | refine T_skip ?_ | refine T_exit ?_ | (simp (maxSteps := 2000000) only [go_sem, Nat.reduceAdd, Nat.reduceMul, Nat.reduceBEq, Nat.reduceLeDiff, Nat.reduceLT, Nat.reduceEqDiff]; try rfl) | refine T_seq ?_ | (refine And.intro ?_ ?_; focus (intros; simp_all only [Bool.or_eq_false_iff, Bool.or_eq_true, Bool.and_eq_true, and_self, true_and, and_true]; done))
  refine T_cond rfl (fun c2 => ?_) (fun c2 => ?_)
  · repeat' first | refine T_seq_region rfl ?_ | refine T_region rfl ?_ | refine T_ret ?_ | refine T_block ?_ | refine T_skip ?_ | refine T_exit ?_ | (simp (maxSteps := 2000000) only [go_sem, Nat.reduceAdd, Nat.reduceMul, Nat.reduceBEq, Nat.reduceLeDiff, Nat.reduceLT, Nat.reduceEqDiff]; try rfl) | refine T_seq ?_ | (refine And.intro ?_ ?_; focus (intros; simp_all only [Bool.or_eq_false_iff, Bool.or_eq_true, Bool.and_eq_true, and_self, true_and, and_true]; done))
  have hp1 := lo_ge c2
  have hn1 := lo_in hn0 hp1
  have hb1 : Blk.blk a1 ≤ 1048576 := by have h1 := lo_fit hp1; have h2 := hn0; omega
  repeat' first | refine T_seq_region rfl ?_ | refine T_region rfl ?_ | refine T_ret ?_ | refine T_block ?_ | refine T_skip ?_ | refine T_exit ?_ | (simp (maxSteps := 2000000) only [go_sem, Nat.reduceAdd, Nat.reduceMul, Nat.reduceBEq, Nat.reduceLeDiff, Nat.reduceLT, Nat.reduceEqDiff]; try rfl) | refine T_seq ?_ | (refine And.intro ?_ ?_; focus (intros; simp_all only [Bool.or_eq_false_iff, Bool.or_eq_true, Bool.and_eq_true, and_self, true_and, and_true]; done))
  refine vfn_val (fun _ => szPassageS_fn _ _ _ oa2 hn1) ?_
  repeat' first | refine T_seq_region rfl ?_ | refine T_region rfl ?_ | refine T_ret ?_ | refine T_block ?_ | refine T_skip ?_ | refine T_exit ?_ | (simp (maxSteps := 2000000) only [go_sem, Nat.reduceAdd, Nat.reduceMul, Nat.reduceBEq, Nat.reduceLeDiff, Nat.reduceLT, Nat.reduceEqDiff]; try rfl) | refine T_seq ?_ | (refine And.intro ?_ ?_; focus (intros; simp_all only [Bool.or_eq_false_iff, Bool.or_eq_true, Bool.and_eq_true, and_self, true_and, and_true]; done))
  refine T_cond rfl (fun c3 => ?_) (fun c3 => ?_)
  · repeat' first | refine T_seq_region rfl ?_ | refine T_region rfl ?_ | refine T_ret ?_ | refine T_block ?_ | refine T_skip ?_ | refine T_exit ?_ | (simp (maxSteps := 2000000) only [go_sem, Nat.reduceAdd, Nat.reduceMul, Nat.reduceBEq, Nat.reduceLeDiff, Nat.reduceLT, Nat.reduceEqDiff]; try rfl) | refine T_seq ?_ | (refine And.intro ?_ ?_; focus (intros; simp_all only [Bool.or_eq_false_iff, Bool.or_eq_true, Bool.and_eq_true, and_self, true_and, and_true]; done))
  have hp2 := lo_ge c3
  have hn2 := lo_in hn1 hp2
  have hb2 : Blk.blk a2 ≤ 1048576 := by have h1 := lo_fit hp2; have h2 := hn1; omega
  repeat' first | refine T_seq_region rfl ?_ | refine T_region rfl ?_ | refine T_ret ?_ | refine T_block ?_ | refine T_skip ?_ | refine T_exit ?_ | (simp (maxSteps := 2000000) only [go_sem, Nat.reduceAdd, Nat.reduceMul, Nat.reduceBEq, Nat.reduceLeDiff, Nat.reduceLT, Nat.reduceEqDiff]; try rfl) | refine T_seq ?_ | (refine And.intro ?_ ?_; focus (intros; simp_all only [Bool.or_eq_false_iff, Bool.or_eq_true, Bool.and_eq_true, and_self, true_and, and_true]; done))
  refine vfn_at (toChart_fn _ _ oa0 hb0) rfl ?_
  rintro v h1 le1 ⟨s1, rfl, e1, ok1, m1⟩
  have Lh := le1
  repeat' first | refine T_seq_region rfl ?_ | refine T_region rfl ?_ | refine T_ret ?_ | refine T_block ?_ | refine T_skip ?_ | refine T_exit ?_ | (simp (maxSteps := 2000000) only [go_sem, Nat.reduceAdd, Nat.reduceMul, Nat.reduceBEq, Nat.reduceLeDiff, Nat.reduceLT, Nat.reduceEqDiff]; try rfl) | refine T_seq ?_ | (refine And.intro ?_ ?_; focus (intros; simp_all only [Bool.or_eq_false_iff, Bool.or_eq_true, Bool.and_eq_true, and_self, true_and, and_true]; done))
  refine vfn_at (toShipS_fn _ _ (Enc.mono (x := a1) Lh oa1) hb1) rfl ?_
  rintro v h2 le2 ⟨s2, rfl, e2, ok2, m2⟩
  replace ok1 := Enc.mono (x := s1) le2 ok1
  replace Lh := Hp.le_trans Lh le2
  repeat' first | refine T_seq_region rfl ?_ | refine T_region rfl ?_ | refine T_ret ?_ | refine T_block ?_ | refine T_skip ?_ | refine T_exit ?_ | (simp (maxSteps := 2000000) only [go_sem, Nat.reduceAdd, Nat.reduceMul, Nat.reduceBEq, Nat.reduceLeDiff, Nat.reduceLT, Nat.reduceEqDiff]; try rfl) | refine T_seq ?_ | (refine And.intro ?_ ?_; focus (intros; simp_all only [Bool.or_eq_false_iff, Bool.or_eq_true, Bool.and_eq_true, and_self, true_and, and_true]; done))
  refine vfn_at (toPassageS_fn _ _ (Enc.mono (x := a2) Lh oa2) hb2) rfl ?_
  rintro v h3 le3 ⟨s3, rfl, e3, ok3, m3⟩
  replace ok1 := Enc.mono (x := s1) le3 ok1
  replace ok2 := Enc.mono (x := s2) le3 ok2
  replace Lh := Hp.le_trans Lh le3
  repeat' first | refine T_seq_region rfl ?_ | refine T_region rfl ?_ | refine T_ret ?_ | refine T_block ?_ | refine T_skip ?_ | refine T_exit ?_ | (simp (maxSteps := 2000000) only [go_sem, Nat.reduceAdd, Nat.reduceMul, Nat.reduceBEq, Nat.reduceLeDiff, Nat.reduceLT, Nat.reduceEqDiff]; try rfl) | refine T_seq ?_ | (refine And.intro ?_ ?_; focus (intros; simp_all only [Bool.or_eq_false_iff, Bool.or_eq_true, Bool.and_eq_true, and_self, true_and, and_true]; done))
  refine vfn_val (fun _ => spec_PilotDuty_fn _ _ _ _ ok1 ok2 ok3) ?_
  have rk1 := fun hh => F_PilotDuty_ok (f := Con.con s2) (h2 := hh) ok1 ok3
  repeat' first | refine T_seq_region rfl ?_ | refine T_region rfl ?_ | refine T_ret ?_ | refine T_block ?_ | refine T_skip ?_ | refine T_exit ?_ | (simp (maxSteps := 2000000) only [go_sem, Nat.reduceAdd, Nat.reduceMul, Nat.reduceBEq, Nat.reduceLeDiff, Nat.reduceLT, Nat.reduceEqDiff]; try rfl) | refine T_seq ?_ | (refine And.intro ?_ ?_; focus (intros; simp_all only [Bool.or_eq_false_iff, Bool.or_eq_true, Bool.and_eq_true, and_self, true_and, and_true]; done))
  refine vfn_at (toChart_fn _ _ (Enc.mono (x := a0) Lh oa0) hb0) rfl ?_
  rintro v h4 le4 ⟨s4, rfl, e4, ok4, m4⟩
  have n4_h : ∀ b ∈ Foot.foot s4, h b = none := fun b hb => none_of_le Lh (m4.2.1 b hb)
  replace ok1 := Enc.mono (x := s1) le4 ok1
  replace ok2 := Enc.mono (x := s2) le4 ok2
  replace ok3 := Enc.mono (x := s3) le4 ok3
  replace Lh := Hp.le_trans Lh le4
  have ow4 := m4.1
  repeat' first | refine T_seq_region rfl ?_ | refine T_region rfl ?_ | refine T_ret ?_ | refine T_block ?_ | refine T_skip ?_ | refine T_exit ?_ | (simp (maxSteps := 2000000) only [go_sem, Nat.reduceAdd, Nat.reduceMul, Nat.reduceBEq, Nat.reduceLeDiff, Nat.reduceLT, Nat.reduceEqDiff]; try rfl) | refine T_seq ?_ | (refine And.intro ?_ ?_; focus (intros; simp_all only [Bool.or_eq_false_iff, Bool.or_eq_true, Bool.and_eq_true, and_self, true_and, and_true]; done))
  refine vfn_at (toShipS_fn _ _ (Enc.mono (x := a1) Lh oa1) hb1) rfl ?_
  rintro v h5 le5 ⟨s5, rfl, e5, ok5, m5⟩
  have d5_4 : ∀ b ∈ Foot.foot s5, ¬ (b ∈ Foot.foot s4) := fun b hb hu => Foot.dom (x := s4) ow4 b hu (m5.2.1 b hb)
  have n5_h : ∀ b ∈ Foot.foot s5, h b = none := fun b hb => none_of_le Lh (m5.2.1 b hb)
  replace ow4 := own_le (x := s4) le5 ok4 ow4
  replace ok4 := Enc.mono (x := s4) le5 ok4
  replace ok1 := Enc.mono (x := s1) le5 ok1
  replace ok2 := Enc.mono (x := s2) le5 ok2
  replace ok3 := Enc.mono (x := s3) le5 ok3
  replace Lh := Hp.le_trans Lh le5
  have ow5 := m5.1
  repeat' first | refine T_seq_region rfl ?_ | refine T_region rfl ?_ | refine T_ret ?_ | refine T_block ?_ | refine T_skip ?_ | refine T_exit ?_ | (simp (maxSteps := 2000000) only [go_sem, Nat.reduceAdd, Nat.reduceMul, Nat.reduceBEq, Nat.reduceLeDiff, Nat.reduceLT, Nat.reduceEqDiff]; try rfl) | refine T_seq ?_ | (refine And.intro ?_ ?_; focus (intros; simp_all only [Bool.or_eq_false_iff, Bool.or_eq_true, Bool.and_eq_true, and_self, true_and, and_true]; done))
  refine vfn_at (toPassageS_fn _ _ (Enc.mono (x := a2) Lh oa2) hb2) rfl ?_
  rintro v h6 le6 ⟨s6, rfl, e6, ok6, m6⟩
  have d6_4 : ∀ b ∈ Foot.foot s6, ¬ (b ∈ Foot.foot s4) := fun b hb hu => Foot.dom (x := s4) ow4 b hu (m6.2.1 b hb)
  have d6_5 : ∀ b ∈ Foot.foot s6, ¬ (b ∈ Foot.foot s5) := fun b hb hu => Foot.dom (x := s5) ow5 b hu (m6.2.1 b hb)
  have n6_h : ∀ b ∈ Foot.foot s6, h b = none := fun b hb => none_of_le Lh (m6.2.1 b hb)
  replace ow4 := own_le (x := s4) le6 ok4 ow4
  replace ok4 := Enc.mono (x := s4) le6 ok4
  replace ow5 := own_le (x := s5) le6 ok5 ow5
  replace ok5 := Enc.mono (x := s5) le6 ok5
  replace ok1 := Enc.mono (x := s1) le6 ok1
  replace ok2 := Enc.mono (x := s2) le6 ok2
  replace ok3 := Enc.mono (x := s3) le6 ok3
  replace Lh := Hp.le_trans Lh le6
  have ow6 := m6.1
  repeat' first | refine T_seq_region rfl ?_ | refine T_region rfl ?_ | refine T_ret ?_ | refine T_block ?_ | refine T_skip ?_ | refine T_exit ?_ | (simp (maxSteps := 2000000) only [go_sem, Nat.reduceAdd, Nat.reduceMul, Nat.reduceBEq, Nat.reduceLeDiff, Nat.reduceLT, Nat.reduceEqDiff]; try rfl) | refine T_seq ?_ | (refine And.intro ?_ ?_; focus (intros; simp_all only [Bool.or_eq_false_iff, Bool.or_eq_true, Bool.and_eq_true, and_self, true_and, and_true]; done))
  refine vfn_val (fun _ => impl_PilotDuty_fn _ _ _ _ ok4 ok5 ok6) ?_
  have rk2 := fun hh => F_PilotDuty_ok (f := Con.con s5) (h2 := hh) ok4 ok6
  repeat' first | refine T_seq_region rfl ?_ | refine T_region rfl ?_ | refine T_ret ?_ | refine T_block ?_ | refine T_skip ?_ | refine T_exit ?_ | (simp (maxSteps := 2000000) only [go_sem, Nat.reduceAdd, Nat.reduceMul, Nat.reduceBEq, Nat.reduceLeDiff, Nat.reduceLT, Nat.reduceEqDiff]; try rfl) | refine T_seq ?_ | (refine And.intro ?_ ?_; focus (intros; simp_all only [Bool.or_eq_false_iff, Bool.or_eq_true, Bool.and_eq_true, and_self, true_and, and_true]; done))
  refine vfn_val (fun _ => eqDuty_fn _ _ _ (rk2 _) (rk1 _)) ?_
  repeat' first | refine T_seq_region rfl ?_ | refine T_region rfl ?_ | refine T_ret ?_ | refine T_block ?_ | refine T_skip ?_ | refine T_exit ?_ | (simp (maxSteps := 2000000) only [go_sem, Nat.reduceAdd, Nat.reduceMul, Nat.reduceBEq, Nat.reduceLeDiff, Nat.reduceLT, Nat.reduceEqDiff]; try rfl) | refine T_seq ?_ | (refine And.intro ?_ ?_; focus (intros; simp_all only [Bool.or_eq_false_iff, Bool.or_eq_true, Bool.and_eq_true, and_self, true_and, and_true]; done))
  refine T_cond rfl (fun c4 => ?_) (fun c4 => ?_)
  · simp only [Bool.or_eq_true] at c4
    rcases c4 with c4 | c4
    · (rw [Bool.not_eq_true'] at c4; exact (of_decide_eq_false c4 (by simp only [e1, e2, e3, e4, e5, e6])).elim)
    · (exact absurd (by simp only [e1, e2, e3, e4, e5, e6]) (ne_of_bne c4))
  repeat' first | refine T_seq_region rfl ?_ | refine T_region rfl ?_ | refine T_ret ?_ | refine T_block ?_ | refine T_skip ?_ | refine T_exit ?_ | (simp (maxSteps := 2000000) only [go_sem, Nat.reduceAdd, Nat.reduceMul, Nat.reduceBEq, Nat.reduceLeDiff, Nat.reduceLT, Nat.reduceEqDiff]; try rfl) | refine T_seq ?_ | (refine And.intro ?_ ?_; focus (intros; simp_all only [Bool.or_eq_false_iff, Bool.or_eq_true, Bool.and_eq_true, and_self, true_and, and_true]; done))
  refine T_any rfl ?_
  refine V_takes [0, 1] rfl (by kernel_rfl) ?_
  simp (maxSteps := 2000000) only [go_sem, Nat.reduceAdd, Nat.reduceMul, Nat.reduceBEq, Nat.reduceLeDiff, Nat.reduceLT, Nat.reduceEqDiff]
  refine V_branch [2] (by kernel_rfl) (by kernel_rfl) ?_
  simp (maxSteps := 2000000) only [go_sem, Nat.reduceAdd, Nat.reduceMul, Nat.reduceBEq, Nat.reduceLeDiff, Nat.reduceLT, Nat.reduceEqDiff]
  refine vfn_at (toChart_fn _ _ (Enc.mono (x := a0) Lh oa0) hb0) rfl ?_
  rintro v h7 le7 ⟨s7, rfl, e7, ok7, m7⟩
  replace ow4 := own_le (x := s4) le7 ok4 ow4
  replace ok4 := Enc.mono (x := s4) le7 ok4
  replace ow5 := own_le (x := s5) le7 ok5 ow5
  replace ok5 := Enc.mono (x := s5) le7 ok5
  replace ow6 := own_le (x := s6) le7 ok6 ow6
  replace ok6 := Enc.mono (x := s6) le7 ok6
  replace ok1 := Enc.mono (x := s1) le7 ok1
  replace ok2 := Enc.mono (x := s2) le7 ok2
  replace ok3 := Enc.mono (x := s3) le7 ok3
  replace Lh := Hp.le_trans Lh le7
  simp (maxSteps := 2000000) only [go_sem, Nat.reduceAdd, Nat.reduceMul, Nat.reduceBEq, Nat.reduceLeDiff, Nat.reduceLT, Nat.reduceEqDiff]
  refine V_branch [3] (by kernel_rfl) (by kernel_rfl) ?_
  simp (maxSteps := 2000000) only [go_sem, Nat.reduceAdd, Nat.reduceMul, Nat.reduceBEq, Nat.reduceLeDiff, Nat.reduceLT, Nat.reduceEqDiff]
  refine vfn_val (fun _ => eqChart_fn _ _ _ ok4 ok7) ?_
  simp (maxSteps := 2000000) only [go_sem, Nat.reduceAdd, Nat.reduceMul, Nat.reduceBEq, Nat.reduceLeDiff, Nat.reduceLT, Nat.reduceEqDiff]
  refine V_takes [4] rfl (by kernel_rfl) ?_
  simp (maxSteps := 2000000) only [go_sem, Nat.reduceAdd, Nat.reduceMul, Nat.reduceBEq, Nat.reduceLeDiff, Nat.reduceLT, Nat.reduceEqDiff]
  refine V_done (by kernel_rfl) ?_
  repeat' first | refine T_seq_region rfl ?_ | refine T_region rfl ?_ | refine T_ret ?_ | refine T_block ?_ | refine T_skip ?_ | refine T_exit ?_ | (simp (maxSteps := 2000000) only [go_sem, Nat.reduceAdd, Nat.reduceMul, Nat.reduceBEq, Nat.reduceLeDiff, Nat.reduceLT, Nat.reduceEqDiff]; try rfl) | refine T_seq ?_ | (refine And.intro ?_ ?_; focus (intros; simp_all only [Bool.or_eq_false_iff, Bool.or_eq_true, Bool.and_eq_true, and_self, true_and, and_true]; done))
  refine T_cond rfl (fun c5 => ?_) (fun c5 => ?_)
  · (rw [Bool.not_eq_true'] at c5; exact (of_decide_eq_false c5 (by simp only [e1, e2, e3, e4, e5, e6, e7])).elim)
  repeat' first | refine T_seq_region rfl ?_ | refine T_region rfl ?_ | refine T_ret ?_ | refine T_block ?_ | refine T_skip ?_ | refine T_exit ?_ | (simp (maxSteps := 2000000) only [go_sem, Nat.reduceAdd, Nat.reduceMul, Nat.reduceBEq, Nat.reduceLeDiff, Nat.reduceLT, Nat.reduceEqDiff]; try rfl) | refine T_seq ?_ | (refine And.intro ?_ ?_; focus (intros; simp_all only [Bool.or_eq_false_iff, Bool.or_eq_true, Bool.and_eq_true, and_self, true_and, and_true]; done))
  refine vfn_at (toShipS_fn _ _ (Enc.mono (x := a1) Lh oa1) hb1) rfl ?_
  rintro v h8 le8 ⟨s8, rfl, e8, ok8, m8⟩
  replace ow4 := own_le (x := s4) le8 ok4 ow4
  replace ok4 := Enc.mono (x := s4) le8 ok4
  replace ow5 := own_le (x := s5) le8 ok5 ow5
  replace ok5 := Enc.mono (x := s5) le8 ok5
  replace ow6 := own_le (x := s6) le8 ok6 ow6
  replace ok6 := Enc.mono (x := s6) le8 ok6
  replace ok1 := Enc.mono (x := s1) le8 ok1
  replace ok2 := Enc.mono (x := s2) le8 ok2
  replace ok3 := Enc.mono (x := s3) le8 ok3
  replace ok7 := Enc.mono (x := s7) le8 ok7
  replace Lh := Hp.le_trans Lh le8
  repeat' first | refine T_seq_region rfl ?_ | refine T_region rfl ?_ | refine T_ret ?_ | refine T_block ?_ | refine T_skip ?_ | refine T_exit ?_ | (simp (maxSteps := 2000000) only [go_sem, Nat.reduceAdd, Nat.reduceMul, Nat.reduceBEq, Nat.reduceLeDiff, Nat.reduceLT, Nat.reduceEqDiff]; try rfl) | refine T_seq ?_ | (refine And.intro ?_ ?_; focus (intros; simp_all only [Bool.or_eq_false_iff, Bool.or_eq_true, Bool.and_eq_true, and_self, true_and, and_true]; done))
  refine vfn_val (fun _ => eqShipS_fn _ _ _ ok5 ok8) ?_
  repeat' first | refine T_seq_region rfl ?_ | refine T_region rfl ?_ | refine T_ret ?_ | refine T_block ?_ | refine T_skip ?_ | refine T_exit ?_ | (simp (maxSteps := 2000000) only [go_sem, Nat.reduceAdd, Nat.reduceMul, Nat.reduceBEq, Nat.reduceLeDiff, Nat.reduceLT, Nat.reduceEqDiff]; try rfl) | refine T_seq ?_ | (refine And.intro ?_ ?_; focus (intros; simp_all only [Bool.or_eq_false_iff, Bool.or_eq_true, Bool.and_eq_true, and_self, true_and, and_true]; done))
  refine T_cond rfl (fun c6 => ?_) (fun c6 => ?_)
  · (rw [Bool.not_eq_true'] at c6; exact (of_decide_eq_false c6 (by simp only [e1, e2, e3, e4, e5, e6, e7, e8])).elim)
  repeat' first | refine T_seq_region rfl ?_ | refine T_region rfl ?_ | refine T_ret ?_ | refine T_block ?_ | refine T_skip ?_ | refine T_exit ?_ | (simp (maxSteps := 2000000) only [go_sem, Nat.reduceAdd, Nat.reduceMul, Nat.reduceBEq, Nat.reduceLeDiff, Nat.reduceLT, Nat.reduceEqDiff]; try rfl) | refine T_seq ?_ | (refine And.intro ?_ ?_; focus (intros; simp_all only [Bool.or_eq_false_iff, Bool.or_eq_true, Bool.and_eq_true, and_self, true_and, and_true]; done))
  refine vfn_at (toPassageS_fn _ _ (Enc.mono (x := a2) Lh oa2) hb2) rfl ?_
  rintro v h9 le9 ⟨s9, rfl, e9, ok9, m9⟩
  replace ow4 := own_le (x := s4) le9 ok4 ow4
  replace ok4 := Enc.mono (x := s4) le9 ok4
  replace ow5 := own_le (x := s5) le9 ok5 ow5
  replace ok5 := Enc.mono (x := s5) le9 ok5
  replace ow6 := own_le (x := s6) le9 ok6 ow6
  replace ok6 := Enc.mono (x := s6) le9 ok6
  replace ok1 := Enc.mono (x := s1) le9 ok1
  replace ok2 := Enc.mono (x := s2) le9 ok2
  replace ok3 := Enc.mono (x := s3) le9 ok3
  replace ok7 := Enc.mono (x := s7) le9 ok7
  replace ok8 := Enc.mono (x := s8) le9 ok8
  replace Lh := Hp.le_trans Lh le9
  repeat' first | refine T_seq_region rfl ?_ | refine T_region rfl ?_ | refine T_ret ?_ | refine T_block ?_ | refine T_skip ?_ | refine T_exit ?_ | (simp (maxSteps := 2000000) only [go_sem, Nat.reduceAdd, Nat.reduceMul, Nat.reduceBEq, Nat.reduceLeDiff, Nat.reduceLT, Nat.reduceEqDiff]; try rfl) | refine T_seq ?_ | (refine And.intro ?_ ?_; focus (intros; simp_all only [Bool.or_eq_false_iff, Bool.or_eq_true, Bool.and_eq_true, and_self, true_and, and_true]; done))
  refine vfn_val (fun _ => eqPassageS_fn _ _ _ ok6 ok9) ?_
  repeat' first | refine T_seq_region rfl ?_ | refine T_region rfl ?_ | refine T_ret ?_ | refine T_block ?_ | refine T_skip ?_ | refine T_exit ?_ | (simp (maxSteps := 2000000) only [go_sem, Nat.reduceAdd, Nat.reduceMul, Nat.reduceBEq, Nat.reduceLeDiff, Nat.reduceLT, Nat.reduceEqDiff]; try rfl) | refine T_seq ?_ | (refine And.intro ?_ ?_; focus (intros; simp_all only [Bool.or_eq_false_iff, Bool.or_eq_true, Bool.and_eq_true, and_self, true_and, and_true]; done))
  refine T_cond rfl (fun c7 => ?_) (fun c7 => ?_)
  · (rw [Bool.not_eq_true'] at c7; exact (of_decide_eq_false c7 (by simp only [e1, e2, e3, e4, e5, e6, e7, e8, e9])).elim)
  repeat' first | refine T_seq_region rfl ?_ | refine T_region rfl ?_ | refine T_ret ?_ | refine T_block ?_ | refine T_skip ?_ | refine T_exit ?_ | (simp (maxSteps := 2000000) only [go_sem, Nat.reduceAdd, Nat.reduceMul, Nat.reduceBEq, Nat.reduceLeDiff, Nat.reduceLT, Nat.reduceEqDiff]; try rfl) | refine T_seq ?_ | (refine And.intro ?_ ?_; focus (intros; simp_all only [Bool.or_eq_false_iff, Bool.or_eq_true, Bool.and_eq_true, and_self, true_and, and_true]; done))
set_option maxRecDepth 100000 in
theorem PilotDuty_lifted (os : Os) (started : os.Started) (H : Type) (enc : TypeId × Value → H) :
    ReturnsInHanded {} Try.checked os 7 .any (Rows.fnExactPilotDutySpec.pre6 enc Try.prog Try.f7 Rows.fnExactPilotDutyRow.domain false) (Rows.fnExactPilotDutySpec.post enc Try.prog Try.f7 false true false false) := by
  refine returnsInHanded_of_change (C := Try.checked) Try.own started (by kernel_rfl) Try.func7
    (ChangeSpec.witness6 (enc := enc) (C := Try.checked) false ⟨#[], #[.agg #[.slice none 0 0, .slice none 0 0], .slice none 0 0, .slice none 0 0], []⟩ 8 (by kernel_rfl) (by kernel_rfl) (by kernel_rfl) (by kernel_rfl)) ?_
  intro W base args ds gs before hval0 hW hcnd _
  have hval : ∀ (j : Nat) t v, Try.f7.params[j]? = some t → args[j]? = some v → Value.okWide Try.prog W .any base t v := hval0
  have hW' := hW
  obtain ⟨p, q, hA0, hV, rfl, hfz, hnd⟩ := hW
  have hA : DataW.TrodAll enc Try.prog W 0 (fun _ => true) true Try.f7.params.toList args.toList ds p := hA0
  rw [Try.params7] at hA hval
  obtain ⟨args⟩ := args
  obtain ⟨rfl, rfl⟩ := trodVars_none hV
  have hA9 := hA
  obtain ⟨v0, vs0, d0, ds0, p0, q0, ev0, rfl, rfl, k0, r0⟩ := trodAll_cons hA
  obtain ⟨v1, vs1, d1, ds1, p1, q1, ev1, rfl, rfl, k1, r1⟩ := trodAll_cons r0
  obtain ⟨v2, vs2, d2, ds2, p2, q2, ev2, rfl, rfl, k2, r2⟩ := trodAll_cons r1
  obtain ⟨ev3, rfl, rfl⟩ := trodAll_nil r2
  simp only at ev0 ev1 ev2 ev3
  subst ev3
  subst ev2
  subst ev1
  subst ev0
  obtain ⟨a0, rfl, oa0⟩ := open1_struct Try.underlying49 opens_Chart (hval 0 _ v0 rfl rfl) k0
  obtain ⟨a1, rfl, oa1⟩ := open1_slice Try.underlying50 opens_ShipS (hval 1 _ v1 rfl rfl) k1
  obtain ⟨a2, rfl, oa2⟩ := open1_slice Try.underlying51 opens_PassageS (hval 2 _ v2 rfl rfl) k2
  simp only [List.append_nil] at hW' hA9
  have hct := FnExactPilotDuty_fn a0 a1 a2 (vw W) oa0 oa1 oa2
  unfold Ct at hct
  refine (hct.2 W (sees_vw W)).mono fun e W' ⟨v, h', he, hv, hb, _⟩ => ?_
  subst he hv
  have hlt : ∀ x ∈ (p0 ++ (p1 ++ (p2))), x.block < W.heap.size := fun x hx => hW'.lt x hx
  exact ⟨_, rfl, post_law hW' hb (fun _ => rfl) (fun _ _ _ => trodAll_mk1 (shut_bool Try.underlying4 true))
    (fun sp hsp => trodAll_stays Try.laidOut hb (by kernel_rfl) hlt hsp hA9)⟩
theorem FnExactPilotDuty_holds : Rows.FnExactPilotDutySaid :=
  OpenClaim.holds_of_wide 7 Try.f7 rfl rfl rfl rfl rfl rfl rfl ⟨rfl, rfl, rfl, rfl, rfl⟩ rfl rfl rfl rfl rfl (by kernel_rfl) Try.func7 (by kernel_rfl)
    (of_decide_eq_true (by kernel_rfl)) (by unfold Func.isWrapper; rw [if_neg (of_decide_eq_false (by kernel_rfl))]; exact ⟨rfl, rfl⟩)
    (fun os started H enc _ => PilotDuty_lifted os started H enc)
end Go.Proofs.Ytfbdafdbinbeaaa
