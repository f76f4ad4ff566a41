/- What functions of the program compute, and the laws over them. No condition beside those that each theorem states. -/
import Derived.Test.YtkoghfeelonhhaaE4
set_option linter.unusedVariables false
set_option linter.unusedSimpArgs false
namespace Go.Proofs.Ytkoghfeelonhhaa
open Go Go.SL
set_option maxHeartbeats 1000000
def Crew.same (c d : Crew) : Prop := c.start = d.start ∧ c.fin = d.fin ∧ c.pause = d.pause ∧ c.moves.l = d.moves.l
theorem toCrew_fn (c : Crew) (h : Hp) (hc : Enc.ok h c) (hl : c.moves.l.length ≤ 1048576) : Ct Try.prog 16 [.agg #[.int .i64 c.start, .int .i64 c.fin, .int .i64 c.pause, c.moves.val]] h fun v h' => ∃ d : Crew, v = .agg #[.int .i64 d.start, .int .i64 d.fin, .int .i64 d.pause, d.moves.val] ∧ Crew.same c d ∧ Enc.ok h' d ∧ Fresh h h' d.moves.a ∧ Only h h' d.moves.a := by
  refine Ct_of_T (fun A W => by simp) Try.func16 rfl rfl (by simp) fun W0 => ?_
  repeat' first | refine T_seq_region rfl ?_ | refine T_region rfl ?_ | refine T_ret ?_ | (refine vfn_at (toIntS_fn' _ _ hc.2.2.2 hl) rfl ?_; rintro v h' hle ⟨s, rfl, e1, e2, e3, e4⟩) | (simp only [go_sem, Nat.reduceAdd, Nat.reduceBEq, Nat.reduceLeDiff, Nat.reduceLT, Nat.reduceEqDiff]; try rfl) | refine T_seq ?_
  exact ⟨⟨c.start, c.fin, c.pause, s⟩, rfl, ⟨rfl, rfl, rfl, e1.symm⟩, ⟨hc.1, hc.2.1, hc.2.2.1, e2⟩, e3, e4⟩
theorem leftOf_neg {n : Int} {k : Nat} (h : decide (leftOf n k < 0) = false) : (k : Int) ≤ n := by
  rw [leftOf] at h
  split at h
  · simp at h
  · omega
theorem crewOk_same {c d : Crew} (h : Crew.same c d) : crewOk c = crewOk d := by
  obtain ⟨h1, h2, h3, h4⟩ := h
  rw [crewOk, crewOk, h1, h2, h3, h4]
theorem FnExactCrewOk_fn (c : Crew) (h : Hp) (hc : Enc.ok h c) (hl : c.moves.l.length ≤ 9223372036854775807) : Ct Try.prog 3 [.agg #[.int .i64 c.start, .int .i64 c.fin, .int .i64 c.pause, c.moves.val]] h fun v h' => v = .bool true := by
  refine Ct_of_T (fun A W => by simp) Try.func3 rfl rfl (by simp) fun W0 => ?_
  repeat' first | refine T_seq_region rfl ?_ | refine T_region rfl ?_ | refine T_ret ?_ | refine T_block ?_ | refine T_skip ?_ | refine T_exit ?_ | refine vfn_val (fun _ => szCrew_fn _ _ _ hc (by omega) hl) ?_ | (simp only [go_sem, Nat.reduceAdd, Nat.reduceBEq, Nat.reduceLeDiff, Nat.reduceLT, Nat.reduceEqDiff]; try rfl) | refine T_seq ?_
  refine T_cond rfl (fun hd => ?_) (fun hd => ?_)
  · repeat' first | refine T_seq_region rfl ?_ | refine T_region rfl ?_ | refine T_ret ?_ | refine T_block ?_ | refine T_skip ?_ | refine T_exit ?_ | (simp only [go_sem, Nat.reduceAdd, Nat.reduceBEq, Nat.reduceLeDiff, Nat.reduceLT, Nat.reduceEqDiff]; try rfl) | refine T_seq ?_
  have hlen : c.moves.l.length ≤ 1048576 := by have := leftOf_neg hd; omega
  repeat' first | refine T_seq_region rfl ?_ | refine T_region rfl ?_ | refine T_ret ?_ | refine T_block ?_ | refine T_skip ?_ | refine T_exit ?_ | (simp only [go_sem, Nat.reduceAdd, Nat.reduceBEq, Nat.reduceLeDiff, Nat.reduceLT, Nat.reduceEqDiff]; try rfl) | refine T_seq ?_
  refine vfn_at (toCrew_fn _ _ hc hlen) rfl ?_
  rintro v h1 hle1 ⟨d1, rfl, s1, ok1, f1, o1⟩
  have hlen1 : d1.moves.l.length ≤ 1048576 := by rw [← s1.2.2.2]; exact hlen
  simp only [go_sem, Nat.reduceAdd, Nat.reduceBEq, Nat.reduceLeDiff, Nat.reduceLT, Nat.reduceEqDiff]
  refine vfn_val (fun _ => specCrewOk_fn _ _ ok1 (by omega)) ?_
  repeat' first | refine T_seq_region rfl ?_ | refine T_region rfl ?_ | refine T_ret ?_ | refine T_block ?_ | refine T_skip ?_ | refine T_exit ?_ | (simp only [go_sem, Nat.reduceAdd, Nat.reduceBEq, Nat.reduceLeDiff, Nat.reduceLT, Nat.reduceEqDiff]; try rfl) | refine T_seq ?_
  refine vfn_at (toCrew_fn _ _ (Enc.mono hle1 hc) hlen) rfl ?_
  rintro v h2 hle2 ⟨d2, rfl, s2, ok2, f2, o2⟩
  have hlen2 : d2.moves.l.length ≤ 1048576 := by rw [← s2.2.2.2]; exact hlen
  repeat' first | refine T_seq_region rfl ?_ | refine T_region rfl ?_ | refine T_ret ?_ | refine T_block ?_ | refine T_skip ?_ | refine T_exit ?_ | (simp only [go_sem, Nat.reduceAdd, Nat.reduceBEq, Nat.reduceLeDiff, Nat.reduceLT, Nat.reduceEqDiff]; try rfl) | refine T_seq ?_
  refine vfn_val (fun _ => implCrewOk_fn _ _ ok2 (by omega)) ?_
  repeat' first | refine T_seq_region rfl ?_ | refine T_region rfl ?_ | refine T_ret ?_ | refine T_block ?_ | refine T_skip ?_ | refine T_exit ?_ | (simp only [go_sem, Nat.reduceAdd, Nat.reduceBEq, Nat.reduceLeDiff, Nat.reduceLT, Nat.reduceEqDiff]; try rfl) | refine T_seq ?_
  refine T_cond rfl (fun hd => ?_) (fun hd => ?_)
  · exact absurd (by rw [← crewOk_same s1, ← crewOk_same s2]) (ne_of_bne hd)
  repeat' first | refine T_seq_region rfl ?_ | refine T_region rfl ?_ | refine T_ret ?_ | refine T_block ?_ | refine T_skip ?_ | refine T_exit ?_ | (simp only [go_sem, Nat.reduceAdd, Nat.reduceBEq, Nat.reduceLeDiff, Nat.reduceLT, Nat.reduceEqDiff]; try rfl) | refine T_seq ?_
  refine T_any rfl ?_
  refine V_takes [0, 1] rfl (by kernel_rfl) ?_
  simp only [go_sem, Nat.reduceAdd, Nat.reduceBEq, Nat.reduceLeDiff, Nat.reduceLT, Nat.reduceEqDiff]
  refine V_branch [2] (by kernel_rfl) (by kernel_rfl) ?_
  simp only [go_sem, Nat.reduceAdd, Nat.reduceBEq, Nat.reduceLeDiff, Nat.reduceLT, Nat.reduceEqDiff]
  refine vfn_at (toCrew_fn _ _ (Enc.mono (Hp.le_trans hle1 hle2) hc) hlen) rfl ?_
  rintro v h3 hle3 ⟨d3, rfl, s3, ok3, f3, o3⟩
  simp only [go_sem, Nat.reduceAdd, Nat.reduceBEq, Nat.reduceLeDiff, Nat.reduceLT, Nat.reduceEqDiff]
  refine V_branch [3] (by kernel_rfl) (by kernel_rfl) ?_
  simp only [go_sem, Nat.reduceAdd, Nat.reduceBEq, Nat.reduceLeDiff, Nat.reduceLT, Nat.reduceEqDiff]
  refine vfn_val (fun _ => eqCrew_fn _ _ _ (Enc.mono hle3 ok2) ok3 (by omega)) ?_
  simp only [go_sem, Nat.reduceAdd, Nat.reduceBEq, Nat.reduceLeDiff, Nat.reduceLT, Nat.reduceEqDiff]
  refine V_takes [4] rfl (by kernel_rfl) ?_
  simp only [go_sem, Nat.reduceAdd, Nat.reduceBEq, Nat.reduceLeDiff, Nat.reduceLT, Nat.reduceEqDiff]
  refine V_done (by kernel_rfl) ?_
  repeat' first | refine T_seq_region rfl ?_ | refine T_region rfl ?_ | refine T_ret ?_ | refine T_block ?_ | refine T_skip ?_ | refine T_exit ?_ | (simp only [go_sem, Nat.reduceAdd, Nat.reduceBEq, Nat.reduceLeDiff, Nat.reduceLT, Nat.reduceEqDiff]; try rfl) | refine T_seq ?_
  refine T_cond rfl (fun hd => ?_) (fun hd => ?_)
  · refine absurd ?_ (of_decide_eq_false (by simpa only [Bool.not_eq_true'] using hd))
    exact ⟨s2.1.symm.trans s3.1, s2.2.1.symm.trans s3.2.1, s2.2.2.1.symm.trans s3.2.2.1, s2.2.2.2.symm.trans s3.2.2.2⟩
  repeat' first | refine T_seq_region rfl ?_ | refine T_region rfl ?_ | refine T_ret ?_ | refine T_block ?_ | refine T_skip ?_ | refine T_exit ?_ | (simp only [go_sem, Nat.reduceAdd, Nat.reduceBEq, Nat.reduceLeDiff, Nat.reduceLT, Nat.reduceEqDiff]; try rfl) | refine T_seq ?_
end Go.Proofs.Ytkoghfeelonhhaa
