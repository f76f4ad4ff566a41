/- What functions of the program compute, and the laws over them. No condition beside those that each theorem states. -/
import Derived.Test.YtkoghfeelonhhaaA1Ty
import Derived.Test.YtkoghfeelonhhaaSL16
set_option linter.unusedVariables false
set_option linter.unusedSimpArgs false
namespace Go.Proofs.Ytkoghfeelonhhaa
open Go Go.SL
set_option maxHeartbeats 1000000
theorem eqIntS_fn (a b : Sl Int) (h : Hp) (ha : a.Ok h) (hb : b.Ok h) (hl : a.l.length ≤ 9223372036854775807) : Ct Try.prog 25 [a.val, b.val] h fun v h' => v = .bool (decide (a.l = b.l)) ∧ h' = h := by
  refine Ct_of_T (fun A W => by simp) Try.func25 rfl rfl (by simp) fun W0 => ?_
  repeat' first | refine T_seq_region rfl ?_ | refine T_region rfl ?_ | refine T_ret ?_ | refine T_block ?_ | refine T_skip ?_ | refine T_exit ?_ | (simp only [go_sem, Nat.reduceAdd, Nat.reduceBEq, Nat.reduceLeDiff, Nat.reduceLT, Nat.reduceEqDiff]; try rfl) | refine T_seq ?_
  refine T_cond rfl (fun hc => ?_) (fun hc => ?_)
  · repeat' first | refine T_seq_region rfl ?_ | refine T_region rfl ?_ | refine T_ret ?_ | refine T_block ?_ | refine T_skip ?_ | refine T_exit ?_ | (simp only [go_sem, Nat.reduceAdd, Nat.reduceBEq, Nat.reduceLeDiff, Nat.reduceLT, Nat.reduceEqDiff]; try rfl) | refine T_seq ?_
    exact boolF fun e => ne_of_bne hc (by rw [e])
  have hlen : a.l.length = b.l.length := by have := eq_of_bne hc; omega
  repeat' first | refine T_seq_region rfl ?_ | refine T_region rfl ?_ | refine T_ret ?_ | refine T_block ?_ | refine T_skip ?_ | refine T_exit ?_ | (simp only [go_sem, Nat.reduceAdd, Nat.reduceBEq, Nat.reduceLeDiff, Nat.reduceLT, Nat.reduceEqDiff]; try rfl) | refine T_seq ?_
  refine T_loop (ι := Nat) (fun k => ⟨[(0, true, .c (.v a.val)), (1, true, .c (.v b.val)), (5, true, .c (.v (.int .i64 k)))], [], h, 0⟩) (fun k => k ≤ a.l.length ∧ a.l.take k = b.l.take k) (fun k => a.l.length - k) 0 ⟨Nat.zero_le _, rfl⟩ ?_ ?_
  · simp only [go_sem, Nat.reduceAdd, Nat.reduceBEq, Nat.reduceLeDiff, Nat.reduceLT, Nat.reduceEqDiff]
    rfl
  intro k hk
  repeat' first | refine T_seq_region rfl ?_ | refine T_region rfl ?_ | refine T_ret ?_ | refine T_block ?_ | refine T_skip ?_ | refine T_exit ?_ | (simp only [go_sem, Nat.reduceAdd, Nat.reduceBEq, Nat.reduceLeDiff, Nat.reduceLT, Nat.reduceEqDiff]; try rfl) | refine T_seq ?_
  refine T_cond rfl (fun hc => ?_) (fun hc => ?_)
  · have hlt := lt_of_dec hc
    have hlt' : k < b.l.length := by omega
    repeat' first | refine T_seq_region rfl ?_ | refine T_region rfl ?_ | refine T_ret ?_ | refine T_block ?_ | refine T_skip ?_ | refine T_exit ?_ | (simp only [go_sem, Nat.reduceAdd, Nat.reduceBEq, Nat.reduceLeDiff, Nat.reduceLT, Nat.reduceEqDiff]; try rfl) | refine T_seq ?_
    refine T_any_q rfl (by kernel_rfl) ?_
    simp only [go_sem, Nat.reduceAdd, Nat.reduceBEq, Nat.reduceLeDiff, Nat.reduceLT, Nat.reduceEqDiff, atI ha hlt, ha.some hlt, atI hb hlt', hb.some hlt', hlt, hlt']
    refine T_cond rfl (fun hd => ?_) (fun hd => ?_)
    · repeat' first | refine T_seq_region rfl ?_ | refine T_region rfl ?_ | refine T_ret ?_ | refine T_block ?_ | refine T_skip ?_ | refine T_exit ?_ | (simp only [go_sem, Nat.reduceAdd, Nat.reduceBEq, Nat.reduceLeDiff, Nat.reduceLT, Nat.reduceEqDiff]; try rfl) | refine T_seq ?_
      exact boolF fun e => ne_of_bne hd (by simp only [e])
    · repeat' first | refine T_seq_region rfl ?_ | refine T_region rfl ?_ | refine T_ret ?_ | refine T_block ?_ | refine T_skip ?_ | refine T_exit ?_ | (simp only [go_sem, Nat.reduceAdd, Nat.reduceBEq, Nat.reduceLeDiff, Nat.reduceLT, Nat.reduceEqDiff]; try rfl) | refine T_seq ?_
      exact ⟨k + 1, ⟨hlt, take_eq_succ hlt hlt' hk.2 (eq_of_bne hd)⟩, by omega, svInt (wrapS hlt (by omega))⟩
  · have hge := ge_of_dec hc
    repeat' first | refine T_seq_region rfl ?_ | refine T_region rfl ?_ | refine T_ret ?_ | refine T_block ?_ | refine T_skip ?_ | refine T_exit ?_ | (simp only [go_sem, Nat.reduceAdd, Nat.reduceBEq, Nat.reduceLeDiff, Nat.reduceLT, Nat.reduceEqDiff]; try rfl) | refine T_seq ?_
    refine boolT ?_
    have := hk.2
    rwa [List.take_of_length_le hge, List.take_of_length_le (by omega)] at this
end Go.Proofs.Ytkoghfeelonhhaa
