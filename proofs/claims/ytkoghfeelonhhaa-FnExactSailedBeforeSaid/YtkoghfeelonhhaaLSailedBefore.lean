/- The walk of a law of the given program, and the law itself as it is stated: it holds of every input. No condition. -/
import Derived.Test.YtkoghfeelonhhaaFsz
import Derived.Test.YtkoghfeelonhhaaFto
import Derived.Test.YtkoghfeelonhhaaFeq
import Derived.Test.YtkoghfeelonhhaaFmark
import Derived.Test.YtkoghfeelonhhaaFheld
import Derived.Test.YtkoghfeelonhhaaCha
import Derived.Test.YtkoghfeelonhhaaOp
import Derived.Test.YtkoghfeelonhhaaRows
set_option linter.unusedVariables false
set_option linter.unusedSimpArgs false
namespace Go.Proofs.Ytkoghfeelonhhaa
open Go Go.SL Go.RowKit Go.ChangeShapes Go.WideShapes Go.ChangeAt
set_option maxHeartbeats 1000000
set_option maxRecDepth 100000 in
theorem FnExactSailedBefore_fn (a0 : DOption) (a1 : Int) (h : Hp) (oa0 : Enc.ok h a0) (oa1 : Enc.ok h a1) : Ct Try.prog 9 [.agg #[.int .i64 a0.start, .int .i64 a0.arr, .int .i64 a0.cost, a0.pas.val], .int .i64 a1] h fun v h' => v = .bool true := by
  refine Ct_of_T (fun A W => by simp) Try.func9 rfl rfl (by simp) fun W0 => ?_
  repeat' first | refine T_seq_region rfl ?_ | refine T_region rfl ?_ | refine T_ret ?_ | refine T_block ?_ | refine T_skip ?_ | refine T_exit ?_ | (simp (maxSteps := 2000000) only [go_sem, Nat.reduceAdd, Nat.reduceMul, Nat.reduceBEq, Nat.reduceLeDiff, Nat.reduceLT, Nat.reduceEqDiff]; try rfl) | refine T_seq ?_
  refine vfn_val (fun _ => szOption_fn _ _ _ oa0 (by omega)) ?_
  repeat' first | refine T_seq_region rfl ?_ | refine T_region rfl ?_ | refine T_ret ?_ | refine T_block ?_ | refine T_skip ?_ | refine T_exit ?_ | (simp (maxSteps := 2000000) only [go_sem, Nat.reduceAdd, Nat.reduceMul, Nat.reduceBEq, Nat.reduceLeDiff, Nat.reduceLT, Nat.reduceEqDiff]; try rfl) | refine T_seq ?_
  refine T_cond rfl (fun c1 => ?_) (fun c1 => ?_)
  · repeat' first | refine T_seq_region rfl ?_ | refine T_region rfl ?_ | refine T_ret ?_ | refine T_block ?_ | refine T_skip ?_ | refine T_exit ?_ | (simp (maxSteps := 2000000) only [go_sem, Nat.reduceAdd, Nat.reduceMul, Nat.reduceBEq, Nat.reduceLeDiff, Nat.reduceLT, Nat.reduceEqDiff]; try rfl) | refine T_seq ?_
  have hp0 := lo_ge c1
  have hn0 := lo_in (show (0:Int) ≤ 1048576 ∧ (1048576:Int) ≤ 1048576 by omega) hp0
  have hb0 : Blk.blk a0 ≤ 1048576 := by have h1 := lo_fit hp0; have h2 := (show (0:Int) ≤ 1048576 ∧ (1048576:Int) ≤ 1048576 by omega); omega
  repeat' first | refine T_seq_region rfl ?_ | refine T_region rfl ?_ | refine T_ret ?_ | refine T_block ?_ | refine T_skip ?_ | refine T_exit ?_ | (simp (maxSteps := 2000000) only [go_sem, Nat.reduceAdd, Nat.reduceMul, Nat.reduceBEq, Nat.reduceLeDiff, Nat.reduceLT, Nat.reduceEqDiff]; try rfl) | refine T_seq ?_
  refine vfn_at (toOption_fn _ _ oa0 hb0) rfl ?_
  rintro v h1 le1 ⟨s1, rfl, e1, ok1, m1⟩
  have Lh := le1
  repeat' first | refine T_seq_region rfl ?_ | refine T_region rfl ?_ | refine T_ret ?_ | refine T_block ?_ | refine T_skip ?_ | refine T_exit ?_ | (simp (maxSteps := 2000000) only [go_sem, Nat.reduceAdd, Nat.reduceMul, Nat.reduceBEq, Nat.reduceLeDiff, Nat.reduceLT, Nat.reduceEqDiff]; try rfl) | refine T_seq ?_
  refine vfn_at (spec_SailedBefore_fn _ _ _ ok1 oa1 (blk_sz e1 hb0)) rfl ?_
  rintro v h2 le2 ⟨s2, rfl, e2, ok2, m2⟩
  replace ok1 := Enc.mono (x := s1) le2 ok1
  replace Lh := Hp.le_trans Lh le2
  have okw := ok2
  have Lh2 := Hp.le_refl h2
  repeat' first | refine T_seq_region rfl ?_ | refine T_region rfl ?_ | refine T_ret ?_ | refine T_block ?_ | refine T_skip ?_ | refine T_exit ?_ | (simp (maxSteps := 2000000) only [go_sem, Nat.reduceAdd, Nat.reduceMul, Nat.reduceBEq, Nat.reduceLeDiff, Nat.reduceLT, Nat.reduceEqDiff]; try rfl) | refine T_seq ?_
  refine vfn_at (toOption_fn _ _ (Enc.mono (x := a0) Lh oa0) hb0) rfl ?_
  rintro v h3 le3 ⟨s3, rfl, e3, ok3, m3⟩
  have n3_h : ∀ b ∈ Foot.foot s3, h b = none := fun b hb => none_of_le Lh (m3.2.1 b hb)
  have n3_h2 : ∀ b ∈ Foot.foot s3, h2 b = none := fun b hb => none_of_le Lh2 (m3.2.1 b hb)
  replace ok1 := Enc.mono (x := s1) le3 ok1
  replace Lh := Hp.le_trans Lh le3
  replace Lh2 := Hp.le_trans Lh2 le3
  have ow3 := m3.1
  repeat' first | refine T_seq_region rfl ?_ | refine T_region rfl ?_ | refine T_ret ?_ | refine T_block ?_ | refine T_skip ?_ | refine T_exit ?_ | (simp (maxSteps := 2000000) only [go_sem, Nat.reduceAdd, Nat.reduceMul, Nat.reduceBEq, Nat.reduceLeDiff, Nat.reduceLT, Nat.reduceEqDiff]; try rfl) | refine T_seq ?_
  refine vfn_at (impl_SailedBefore_fn _ _ _ ok3 oa1 (blk_sz e3 hb0)) rfl ?_
  rintro v h4 le4 ⟨s4, rfl, e4, ok4, m4⟩
  have d4_3 : ∀ b ∈ Foot.foot s4, ¬ (b ∈ Foot.foot s3) := fun b hb hu => Foot.dom (x := s3) ow3 b hu (m4.2.1 b hb)
  have n4_h : ∀ b ∈ Foot.foot s4, h b = none := fun b hb => none_of_le Lh (m4.2.1 b hb)
  have n4_h2 : ∀ b ∈ Foot.foot s4, h2 b = none := fun b hb => none_of_le Lh2 (m4.2.1 b hb)
  replace ow3 := own_le (x := s3) le4 ok3 ow3
  replace ok3 := Enc.mono (x := s3) le4 ok3
  replace ok1 := Enc.mono (x := s1) le4 ok1
  replace Lh := Hp.le_trans Lh le4
  replace Lh2 := Hp.le_trans Lh2 le4
  have ow4 := m4.1
  repeat' first | refine T_seq_region rfl ?_ | refine T_region rfl ?_ | refine T_ret ?_ | refine T_block ?_ | refine T_skip ?_ | refine T_exit ?_ | (simp (maxSteps := 2000000) only [go_sem, Nat.reduceAdd, Nat.reduceMul, Nat.reduceBEq, Nat.reduceLeDiff, Nat.reduceLT, Nat.reduceEqDiff]; try rfl) | refine T_seq ?_
  refine vfn_val (fun _ => eqPassageS_fn _ _ _ ok4 (Enc.mono (x := s2) Lh2 ok2)) ?_
  repeat' first | refine T_seq_region rfl ?_ | refine T_region rfl ?_ | refine T_ret ?_ | refine T_block ?_ | refine T_skip ?_ | refine T_exit ?_ | (simp (maxSteps := 2000000) only [go_sem, Nat.reduceAdd, Nat.reduceMul, Nat.reduceBEq, Nat.reduceLeDiff, Nat.reduceLT, Nat.reduceEqDiff]; try rfl) | refine T_seq ?_
  refine T_cond rfl (fun c2 => ?_) (fun c2 => ?_)
  · (rw [Bool.not_eq_true'] at c2; exact (of_decide_eq_false c2 (by simp only [e1, e2, e3, e4])).elim)
  repeat' first | refine T_seq_region rfl ?_ | refine T_region rfl ?_ | refine T_ret ?_ | refine T_block ?_ | refine T_skip ?_ | refine T_exit ?_ | (simp (maxSteps := 2000000) only [go_sem, Nat.reduceAdd, Nat.reduceMul, Nat.reduceBEq, Nat.reduceLeDiff, Nat.reduceLT, Nat.reduceEqDiff]; try rfl) | refine T_seq ?_
  refine T_any rfl ?_
  refine V_takes [0, 1] rfl (by kernel_rfl) ?_
  simp (maxSteps := 2000000) only [go_sem, Nat.reduceAdd, Nat.reduceMul, Nat.reduceBEq, Nat.reduceLeDiff, Nat.reduceLT, Nat.reduceEqDiff]
  refine V_branch [2] (by kernel_rfl) (by kernel_rfl) ?_
  simp (maxSteps := 2000000) only [go_sem, Nat.reduceAdd, Nat.reduceMul, Nat.reduceBEq, Nat.reduceLeDiff, Nat.reduceLT, Nat.reduceEqDiff]
  refine vfn_at (toOption_fn _ _ (Enc.mono (x := a0) Lh oa0) hb0) rfl ?_
  rintro v h5 le5 ⟨s5, rfl, e5, ok5, m5⟩
  replace ow3 := own_le (x := s3) le5 ok3 ow3
  replace ok3 := Enc.mono (x := s3) le5 ok3
  replace ow4 := own_le (x := s4) le5 ok4 ow4
  replace ok4 := Enc.mono (x := s4) le5 ok4
  replace ok1 := Enc.mono (x := s1) le5 ok1
  replace Lh := Hp.le_trans Lh le5
  replace Lh2 := Hp.le_trans Lh2 le5
  simp (maxSteps := 2000000) only [go_sem, Nat.reduceAdd, Nat.reduceMul, Nat.reduceBEq, Nat.reduceLeDiff, Nat.reduceLT, Nat.reduceEqDiff]
  refine V_branch [3] (by kernel_rfl) (by kernel_rfl) ?_
  simp (maxSteps := 2000000) only [go_sem, Nat.reduceAdd, Nat.reduceMul, Nat.reduceBEq, Nat.reduceLeDiff, Nat.reduceLT, Nat.reduceEqDiff]
  refine vfn_val (fun _ => eqOption_fn _ _ _ ok3 ok5) ?_
  simp (maxSteps := 2000000) only [go_sem, Nat.reduceAdd, Nat.reduceMul, Nat.reduceBEq, Nat.reduceLeDiff, Nat.reduceLT, Nat.reduceEqDiff]
  refine V_takes [4] rfl (by kernel_rfl) ?_
  simp (maxSteps := 2000000) only [go_sem, Nat.reduceAdd, Nat.reduceMul, Nat.reduceBEq, Nat.reduceLeDiff, Nat.reduceLT, Nat.reduceEqDiff]
  refine V_done (by kernel_rfl) ?_
  repeat' first | refine T_seq_region rfl ?_ | refine T_region rfl ?_ | refine T_ret ?_ | refine T_block ?_ | refine T_skip ?_ | refine T_exit ?_ | (simp (maxSteps := 2000000) only [go_sem, Nat.reduceAdd, Nat.reduceMul, Nat.reduceBEq, Nat.reduceLeDiff, Nat.reduceLT, Nat.reduceEqDiff]; try rfl) | refine T_seq ?_
  refine T_cond rfl (fun c3 => ?_) (fun c3 => ?_)
  · (rw [Bool.not_eq_true'] at c3; exact (of_decide_eq_false c3 (by simp only [e1, e2, e3, e4, e5])).elim)
  refine T_skip ?_
  simp (maxSteps := 2000000) only [go_sem, Nat.reduceAdd, Nat.reduceMul, Nat.reduceBEq, Nat.reduceLeDiff, Nat.reduceLT, Nat.reduceEqDiff]
  refine T_seq_region rfl ?_
  simp (maxSteps := 2000000) only [go_sem, Nat.reduceAdd, Nat.reduceMul, Nat.reduceBEq, Nat.reduceLeDiff, Nat.reduceLT, Nat.reduceEqDiff]
  refine T_seq_regionX [0, 0, 1] rfl ?_
  simp (maxSteps := 2000000) only [go_sem, Nat.reduceAdd, Nat.reduceMul, Nat.reduceBEq, Nat.reduceLeDiff, Nat.reduceLT, Nat.reduceEqDiff]
  have cn6 : cntv_DOption s3 ≤ 6 * 1048576 := cntv_le_DOption rfl (blk_sz e3 hb0)
  refine vfnW_at (x := ⟨Try.prog, W0, h, _⟩) (markOption_fn s3 (1 : Int) _ ok3 ow3 m3.2.2 (by omega)) rfl (fun b hb => ⟨Foot.dom (x := s3) ow3 b hb, .inl (n3_h b hb)⟩) ?_
  rintro v h6 kp6 ⟨rfl, ok6, ow6⟩
  replace ow4 := (ok_keep (x := s4) ok4 ow4 d4_3 kp6)
  have ok4' := ow4.1
  clear ok4
  have ok4 := ok4'
  clear ok4'
  replace ow4 := ow4.2
  replace Lh := le_keep' Lh n3_h kp6
  replace Lh2 := le_keep' Lh2 n3_h2 kp6
  simp (maxSteps := 2000000) only [go_sem, Nat.reduceAdd, Nat.reduceMul, Nat.reduceBEq, Nat.reduceLeDiff, Nat.reduceLT, Nat.reduceEqDiff]
  repeat' first | refine T_seq_region rfl ?_ | refine T_region rfl ?_ | refine T_ret ?_ | refine T_block ?_ | refine T_skip ?_ | refine T_exit ?_ | (simp (maxSteps := 2000000) only [go_sem, Nat.reduceAdd, Nat.reduceMul, Nat.reduceBEq, Nat.reduceLeDiff, Nat.reduceLT, Nat.reduceEqDiff]; try rfl) | refine T_seq ?_
  refine vfn_val (fun _ => eqPassageS_fn _ _ _ ok4 (Enc.mono (x := s2) Lh2 ok2)) ?_
  repeat' first | refine T_seq_region rfl ?_ | refine T_region rfl ?_ | refine T_ret ?_ | refine T_block ?_ | refine T_skip ?_ | refine T_exit ?_ | (simp (maxSteps := 2000000) only [go_sem, Nat.reduceAdd, Nat.reduceMul, Nat.reduceBEq, Nat.reduceLeDiff, Nat.reduceLT, Nat.reduceEqDiff]; try rfl) | refine T_seq ?_
  refine T_cond rfl (fun c4 => ?_) (fun c4 => ?_)
  · simp only [Bool.or_eq_true] at c4
    rcases c4 with c4 | c4
    · (exact absurd (of_decide_eq_true c4) (by omega))
    · (rw [Bool.not_eq_true'] at c4; exact (of_decide_eq_false c4 (by simp only [e1, e2, e3, e4, e5])).elim)
  refine T_skip ?_
  simp (maxSteps := 2000000) only [go_sem, Nat.reduceAdd, Nat.reduceMul, Nat.reduceBEq, Nat.reduceLeDiff, Nat.reduceLT, Nat.reduceEqDiff]
  refine T_seq_region rfl ?_
  simp (maxSteps := 2000000) only [go_sem, Nat.reduceAdd, Nat.reduceMul, Nat.reduceBEq, Nat.reduceLeDiff, Nat.reduceLT, Nat.reduceEqDiff]
  refine T_seq_regionX [0, 0, 1] rfl ?_
  simp (maxSteps := 2000000) only [go_sem, Nat.reduceAdd, Nat.reduceMul, Nat.reduceBEq, Nat.reduceLeDiff, Nat.reduceLT, Nat.reduceEqDiff]
  have cn7 : Mk.cnt s4 ≤ 6 * 1048576 := cnt_le e4 (sz_F_SailedBefore _ _ (blk_sz e3 hb0))
  refine vfnW_at (x := ⟨Try.prog, W0, h, _⟩) (markPassageS_fn s4 (1 : Int) _ ok4 ow4 m4.2.2 (by omega)) rfl (fun b hb => ⟨Foot.dom (x := s4) ow4 b hb, .inl (n4_h b hb)⟩) ?_
  rintro v h7 kp7 ⟨rfl, ok7, ow7⟩
  replace ow6 := (ok_keep (x := (mkv_DOption s3 (1 : Int))) ok6 ow6 (fun b hb hu => d4_3 b hu (by first | exact hb | (rw [MkOk.foot] at hb; exact hb) | (rw [foot_mkv_DOption] at hb; exact hb))) kp7)
  have ok6' := ow6.1
  clear ok6
  have ok6 := ok6'
  clear ok6'
  replace ow6 := ow6.2
  replace Lh := le_keep' Lh n4_h kp7
  replace Lh2 := le_keep' Lh2 n4_h2 kp7
  simp (maxSteps := 2000000) only [go_sem, Nat.reduceAdd, Nat.reduceMul, Nat.reduceBEq, Nat.reduceLeDiff, Nat.reduceLT, Nat.reduceEqDiff]
  repeat' first | refine T_seq_region rfl ?_ | refine T_region rfl ?_ | refine T_ret ?_ | refine T_block ?_ | refine T_skip ?_ | refine T_exit ?_ | (simp (maxSteps := 2000000) only [go_sem, Nat.reduceAdd, Nat.reduceMul, Nat.reduceBEq, Nat.reduceLeDiff, Nat.reduceLT, Nat.reduceEqDiff]; try rfl) | refine T_seq ?_
  have hh1 := heldPassageS_fn (Mk.put s4 (1 : Int)) 1 h7 ok7 (mkL_idem (l := s4.l)) (by have h0 := cn7; have h1 := MkOk.cnt s4 (1 : Int); (try rw [h1]); omega)
  rw [put_val] at hh1
  refine vfn_val (fun _ => hh1) ?_
  repeat' first | refine T_seq_region rfl ?_ | refine T_region rfl ?_ | refine T_ret ?_ | refine T_block ?_ | refine T_skip ?_ | refine T_exit ?_ | (simp (maxSteps := 2000000) only [go_sem, Nat.reduceAdd, Nat.reduceMul, Nat.reduceBEq, Nat.reduceLeDiff, Nat.reduceLT, Nat.reduceEqDiff]; try rfl) | refine T_seq ?_
  refine T_cond rfl (fun c5 => ?_) (fun c5 => ?_)
  · (exact absurd (of_decide_eq_true c5) (by omega))
  repeat' first | refine T_seq_region rfl ?_ | refine T_region rfl ?_ | refine T_ret ?_ | refine T_block ?_ | refine T_skip ?_ | refine T_exit ?_ | (simp (maxSteps := 2000000) only [go_sem, Nat.reduceAdd, Nat.reduceMul, Nat.reduceBEq, Nat.reduceLeDiff, Nat.reduceLT, Nat.reduceEqDiff]; try rfl) | refine T_seq ?_
  refine T_cond rfl (fun c6 => ?_) (fun c6 => ?_)
  · (exact absurd (by first | rfl | rw [MkOk.cnt] | (simp only [MkOk.cnt])) (ne_of_bne c6))
  repeat' first | refine T_seq_region rfl ?_ | refine T_region rfl ?_ | refine T_ret ?_ | refine T_block ?_ | refine T_skip ?_ | refine T_exit ?_ | (simp (maxSteps := 2000000) only [go_sem, Nat.reduceAdd, Nat.reduceMul, Nat.reduceBEq, Nat.reduceLeDiff, Nat.reduceLT, Nat.reduceEqDiff]; try rfl) | refine T_seq ?_
  refine vfn_at (toOption_fn _ _ (Enc.mono (x := a0) Lh oa0) hb0) rfl ?_
  rintro v h8 le8 ⟨s8, rfl, e8, ok8, m8⟩
  replace ow6 := own_le (x := (mkv_DOption s3 (1 : Int))) le8 ok6 ow6
  replace ok6 := Enc.mono (x := (mkv_DOption s3 (1 : Int))) le8 ok6
  replace ow7 := own_le (x := (Mk.put s4 (1 : Int))) le8 ok7 ow7
  replace ok7 := Enc.mono (x := (Mk.put s4 (1 : Int))) le8 ok7
  replace Lh := Hp.le_trans Lh le8
  replace Lh2 := Hp.le_trans Lh2 le8
  repeat' first | refine T_seq_region rfl ?_ | refine T_region rfl ?_ | refine T_ret ?_ | refine T_block ?_ | refine T_skip ?_ | refine T_exit ?_ | (simp (maxSteps := 2000000) only [go_sem, Nat.reduceAdd, Nat.reduceMul, Nat.reduceBEq, Nat.reduceLeDiff, Nat.reduceLT, Nat.reduceEqDiff]; try rfl) | refine T_seq ?_
  refine vfn_at (impl_SailedBefore_fn _ _ _ ok8 oa1 (blk_sz e8 hb0)) rfl ?_
  rintro v h9 le9 ⟨s9, rfl, e9, ok9, m9⟩
  replace ow6 := own_le (x := (mkv_DOption s3 (1 : Int))) le9 ok6 ow6
  replace ok6 := Enc.mono (x := (mkv_DOption s3 (1 : Int))) le9 ok6
  replace ow7 := own_le (x := (Mk.put s4 (1 : Int))) le9 ok7 ow7
  replace ok7 := Enc.mono (x := (Mk.put s4 (1 : Int))) le9 ok7
  replace ok8 := Enc.mono (x := s8) le9 ok8
  replace Lh := Hp.le_trans Lh le9
  replace Lh2 := Hp.le_trans Lh2 le9
  repeat' first | refine T_seq_region rfl ?_ | refine T_region rfl ?_ | refine T_ret ?_ | refine T_block ?_ | refine T_skip ?_ | refine T_exit ?_ | (simp (maxSteps := 2000000) only [go_sem, Nat.reduceAdd, Nat.reduceMul, Nat.reduceBEq, Nat.reduceLeDiff, Nat.reduceLT, Nat.reduceEqDiff]; try rfl) | refine T_seq ?_
  refine vfn_val (fun _ => eqPassageS_fn _ _ _ ok9 (Enc.mono (x := s2) Lh2 ok2)) ?_
  repeat' first | refine T_seq_region rfl ?_ | refine T_region rfl ?_ | refine T_ret ?_ | refine T_block ?_ | refine T_skip ?_ | refine T_exit ?_ | (simp (maxSteps := 2000000) only [go_sem, Nat.reduceAdd, Nat.reduceMul, Nat.reduceBEq, Nat.reduceLeDiff, Nat.reduceLT, Nat.reduceEqDiff]; try rfl) | refine T_seq ?_
  refine T_cond rfl (fun c7 => ?_) (fun c7 => ?_)
  · (rw [Bool.not_eq_true'] at c7; exact (of_decide_eq_false c7 (by simp only [e1, e2, e3, e4, e5, e8, e9])).elim)
  repeat' first | refine T_seq_region rfl ?_ | refine T_region rfl ?_ | refine T_ret ?_ | refine T_block ?_ | refine T_skip ?_ | refine T_exit ?_ | (simp (maxSteps := 2000000) only [go_sem, Nat.reduceAdd, Nat.reduceMul, Nat.reduceBEq, Nat.reduceLeDiff, Nat.reduceLT, Nat.reduceEqDiff]; try rfl) | refine T_seq ?_
  have hh2 := heldPassageS_fn (Mk.put s4 (1 : Int)) 1 h9 ok7 (mkL_idem (l := s4.l)) (by have h0 := cn7; have h1 := MkOk.cnt s4 (1 : Int); (try rw [h1]); omega)
  rw [put_val] at hh2
  refine vfn_val (fun _ => hh2) ?_
  repeat' first | refine T_seq_region rfl ?_ | refine T_region rfl ?_ | refine T_ret ?_ | refine T_block ?_ | refine T_skip ?_ | refine T_exit ?_ | (simp (maxSteps := 2000000) only [go_sem, Nat.reduceAdd, Nat.reduceMul, Nat.reduceBEq, Nat.reduceLeDiff, Nat.reduceLT, Nat.reduceEqDiff]; try rfl) | refine T_seq ?_
  refine T_cond rfl (fun c8 => ?_) (fun c8 => ?_)
  · (exact absurd (of_decide_eq_true c8) (by omega))
  repeat' first | refine T_seq_region rfl ?_ | refine T_region rfl ?_ | refine T_ret ?_ | refine T_block ?_ | refine T_skip ?_ | refine T_exit ?_ | (simp (maxSteps := 2000000) only [go_sem, Nat.reduceAdd, Nat.reduceMul, Nat.reduceBEq, Nat.reduceLeDiff, Nat.reduceLT, Nat.reduceEqDiff]; try rfl) | refine T_seq ?_
  refine T_cond rfl (fun c9 => ?_) (fun c9 => ?_)
  · (exact absurd (by first | rfl | rw [MkOk.cnt] | (simp only [MkOk.cnt])) (ne_of_bne c9))
  repeat' first | refine T_seq_region rfl ?_ | refine T_region rfl ?_ | refine T_ret ?_ | refine T_block ?_ | refine T_skip ?_ | refine T_exit ?_ | (simp (maxSteps := 2000000) only [go_sem, Nat.reduceAdd, Nat.reduceMul, Nat.reduceBEq, Nat.reduceLeDiff, Nat.reduceLT, Nat.reduceEqDiff]; try rfl) | refine T_seq ?_
set_option maxRecDepth 100000 in
theorem SailedBefore_lifted (os : Os) (started : os.Started) (H : Type) (enc : TypeId × Value → H) :
    ReturnsInHanded {} Try.checked os 9 .any (Rows.fnExactSailedBeforeSpec.pre6 enc Try.prog Try.f9 Rows.fnExactSailedBeforeRow.domain false) (Rows.fnExactSailedBeforeSpec.post enc Try.prog Try.f9 false true false false) := by
  refine returnsInHanded_of_change (C := Try.checked) Try.own started (by kernel_rfl) Try.func9
    (ChangeSpec.witness6 (enc := enc) (C := Try.checked) false ⟨#[], #[.agg #[.int .i64 0, .int .i64 0, .int .i64 0, .slice none 0 0], .int .i64 0], []⟩ 8 (by kernel_rfl) (by kernel_rfl) (by kernel_rfl) (by kernel_rfl)) ?_
  intro W base args ds gs before hval0 hW hcnd _
  have hval : ∀ (j : Nat) t v, Try.f9.params[j]? = some t → args[j]? = some v → Value.okWide Try.prog W .any base t v := hval0
  have hW' := hW
  obtain ⟨p, q, hA0, hV, rfl, hfz, hnd⟩ := hW
  have hA : DataW.TrodAll enc Try.prog W 0 (fun _ => true) true Try.f9.params.toList args.toList ds p := hA0
  rw [Try.params9] at hA hval
  obtain ⟨args⟩ := args
  obtain ⟨rfl, rfl⟩ := trodVars_none hV
  have hA9 := hA
  obtain ⟨v0, vs0, d0, ds0, p0, q0, ev0, rfl, rfl, k0, r0⟩ := trodAll_cons hA
  obtain ⟨v1, vs1, d1, ds1, p1, q1, ev1, rfl, rfl, k1, r1⟩ := trodAll_cons r0
  obtain ⟨ev2, rfl, rfl⟩ := trodAll_nil r1
  simp only at ev0 ev1 ev2
  subst ev2
  subst ev1
  subst ev0
  obtain ⟨a0, rfl, oa0⟩ := open1_struct Try.underlying42 opens_Option (hval 0 _ v0 rfl rfl) k0
  obtain ⟨a1, rfl, oa1⟩ := open1_int Try.underlying3 (hval 1 _ v1 rfl rfl) k1
  simp only [List.append_nil] at hW' hA9
  have hct := FnExactSailedBefore_fn a0 a1 (vw W) oa0 oa1
  unfold Ct at hct
  refine (hct.2 W (sees_vw W)).mono fun e W' ⟨v, h', he, hv, hb, _⟩ => ?_
  subst he hv
  have hlt : ∀ x ∈ (p0 ++ (p1)), x.block < W.heap.size := fun x hx => hW'.lt x hx
  exact ⟨_, rfl, post_law hW' hb (fun _ => rfl) (fun _ _ _ => trodAll_mk1 (shut_bool Try.underlying4 true))
    (fun sp hsp => trodAll_stays Try.laidOut hb (by kernel_rfl) hlt hsp hA9)⟩
theorem FnExactSailedBefore_holds : Rows.FnExactSailedBeforeSaid :=
  OpenClaim.holds_of_wide 9 Try.f9 rfl rfl rfl rfl rfl rfl rfl ⟨rfl, rfl, rfl, rfl, rfl⟩ rfl rfl rfl rfl rfl (by kernel_rfl) Try.func9 (by kernel_rfl)
    (of_decide_eq_true (by kernel_rfl)) (by unfold Func.isWrapper; rw [if_neg (of_decide_eq_false (by kernel_rfl))]; exact ⟨rfl, rfl⟩)
    (fun os started H enc _ => SailedBefore_lifted os started H enc)
end Go.Proofs.Ytkoghfeelonhhaa
