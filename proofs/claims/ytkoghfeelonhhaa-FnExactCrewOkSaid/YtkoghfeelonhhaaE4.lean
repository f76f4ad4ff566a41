/- What functions of the program compute, and the laws over them. No condition beside those that each theorem states. -/
import Derived.Test.YtkoghfeelonhhaaE3
import Derived.Test.YtkoghfeelonhhaaSL18
set_option linter.unusedVariables false
set_option linter.unusedSimpArgs false
namespace Go.Proofs.Ytkoghfeelonhhaa
open Go Go.SL
set_option maxHeartbeats 1000000
theorem toIntS_fn' (a : Sl Int) (h : Hp) (ha : a.Ok h) (hl : a.l.length ≤ 1048576) : Ct Try.prog 22 [a.val] h fun v h' => ∃ s : Sl Int, v = s.val ∧ s.l = a.l ∧ s.Ok h' ∧ Fresh h h' s.a ∧ Only h h' s.a := by
  refine Ct_of_T (fun A W => by simp) Try.func22 rfl rfl (by simp) fun W0 => ?_
  repeat' first | refine T_seq_region rfl ?_ | refine T_region rfl ?_ | refine T_ret ?_ | refine T_block ?_ | refine T_skip ?_ | refine T_exit ?_ | (simp only [go_sem, Nat.reduceAdd, Nat.reduceBEq, Nat.reduceLeDiff, Nat.reduceLT, Nat.reduceEqDiff]; try rfl) | refine T_seq ?_
  refine ⟨by simp only [maxLen]; omega, by omega, ?_⟩
  repeat' first | refine T_seq_region rfl ?_ | refine T_region rfl ?_ | refine T_ret ?_ | refine T_block ?_ | refine T_skip ?_ | refine T_exit ?_ | (simp only [go_sem, Nat.reduceAdd, Nat.reduceBEq, Nat.reduceLeDiff, Nat.reduceLT, Nat.reduceEqDiff]; try rfl) | refine T_seq ?_
  refine T_loop (ι := Nat) (fun k => ⟨[(0, true, .c (.v a.val)), (3, true, .c (.s 0)), (4, true, .c (.v (.int .i64 k)))], [(0, .row 3 1 a.l.length (copied a.l k [.int .i64 0]))], h, 1⟩) (fun k => k ≤ a.l.length) (fun k => a.l.length - k) 0 (Nat.zero_le _) ?_ ?_
  · simp only [go_sem, Nat.reduceAdd, Nat.reduceBEq, Nat.reduceLeDiff, Nat.reduceLT, Nat.reduceEqDiff]
    exact ⟨rfl, row_ext made1c⟩
  intro k hk
  repeat' first | refine T_seq_region rfl ?_ | refine T_region rfl ?_ | refine T_ret ?_ | refine T_block ?_ | refine T_skip ?_ | refine T_exit ?_ | (simp only [go_sem, Nat.reduceAdd, Nat.reduceBEq, Nat.reduceLeDiff, Nat.reduceLT, Nat.reduceEqDiff]; try rfl) | refine T_seq ?_
  refine T_cond rfl (fun hd => ?_) (fun hd => ?_)
  · have hlt := lt_of_dec hd
    repeat' first | refine T_seq_region rfl ?_ | refine T_region rfl ?_ | refine T_ret ?_ | refine T_block ?_ | refine T_skip ?_ | refine T_exit ?_ | (simp only [go_sem, Nat.reduceAdd, Nat.reduceBEq, Nat.reduceLeDiff, Nat.reduceLT, Nat.reduceEqDiff, atI ha hlt, ha.some hlt, hlt]; try rfl) | refine T_seq ?_
    refine ⟨?_, ?_⟩
    · rw [copied_len hk rfl]; exact Nat.mul_le_mul_right 1 hlt
    repeat' first | refine T_seq_region rfl ?_ | refine T_region rfl ?_ | refine T_ret ?_ | refine T_block ?_ | refine T_skip ?_ | refine T_exit ?_ | (simp only [go_sem, Nat.reduceAdd, Nat.reduceBEq, Nat.reduceLeDiff, Nat.reduceLT, Nat.reduceEqDiff]; try rfl) | refine T_seq ?_
    exact ⟨k + 1, hlt, by omega, svInt (wrapS hlt (by omega)), row_ext (copied_next hlt rfl)⟩
  · have hge := ge_of_dec hd
    refine T_exit ?_
    simp only [go_sem, Nat.reduceAdd, Nat.reduceBEq, Nat.reduceLeDiff, Nat.reduceLT, Nat.reduceEqDiff]
    refine T_pubS 0 a.l rfl rfl rfl (copied_all hge) (by decide) (fun x hx => by obtain ⟨i, hi, rfl⟩ := List.getElem_of_mem hx; exact ha.el hi) fun s h' e1 e2 e3 e4 e5 => ?_
    repeat' first | refine T_seq_region rfl ?_ | refine T_region rfl ?_ | refine T_ret ?_ | refine T_block ?_ | refine T_skip ?_ | refine T_exit ?_ | (simp only [go_sem, Nat.reduceAdd, Nat.reduceBEq, Nat.reduceLeDiff, Nat.reduceLT, Nat.reduceEqDiff]; try rfl) | refine T_seq ?_
    exact ⟨s, rfl, e1, e2, e4, e5⟩
end Go.Proofs.Ytkoghfeelonhhaa
