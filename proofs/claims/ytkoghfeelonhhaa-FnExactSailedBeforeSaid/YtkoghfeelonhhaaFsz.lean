/- What functions of the given program compute, each as a contract over what its arguments read as. No condition beside those that each theorem states. -/
import Derived.Test.YtkoghfeelonhhaaTy
set_option linter.unusedVariables false
set_option linter.unusedSimpArgs false
namespace Go.Proofs.Ytkoghfeelonhhaa
open Go Go.SL
set_option maxHeartbeats 1000000
theorem szIntS_fn (a : Sl Int) (n : Int) (h : Hp) (ha : a.Ok h) (hn : 0 ≤ n ∧ n ≤ 1048576) : Ct Try.prog 61 [a.val, .int .i64 n] h fun v h' => v = .int .i64 (szLeft n (Blk.blk a)) ∧ h' = h := by
  have hl := ha.max
  rw [blk_flat (fun _ => rfl) a]
  refine Ct_of_T (fun A W => by simp) Try.func61 rfl rfl (by simp) fun W0 => ?_
  repeat' first | refine T_seq_region rfl ?_ | refine T_region rfl ?_ | refine T_ret ?_ | refine T_block ?_ | refine T_skip ?_ | refine T_exit ?_ | (simp only [go_sem, Nat.reduceAdd, Nat.reduceBEq, Nat.reduceLeDiff, Nat.reduceLT, Nat.reduceEqDiff]; try rfl) | refine T_seq ?_
  refine T_cond rfl (fun hc => ?_) (fun hc => ?_)
  · repeat' first | refine T_seq_region rfl ?_ | refine T_region rfl ?_ | refine T_ret ?_ | refine T_block ?_ | refine T_skip ?_ | refine T_exit ?_ | (simp only [go_sem, Nat.reduceAdd, Nat.reduceBEq, Nat.reduceLeDiff, Nat.reduceLT, Nat.reduceEqDiff]; try rfl) | refine T_seq ?_
    rw [lo_wrap hn hl] at hc
    exact lo_bad (lo_neg hc) (Nat.le_refl _)
  · repeat' first | refine T_seq_region rfl ?_ | refine T_region rfl ?_ | refine T_ret ?_ | refine T_block ?_ | refine T_skip ?_ | refine T_exit ?_ | (simp only [go_sem, Nat.reduceAdd, Nat.reduceBEq, Nat.reduceLeDiff, Nat.reduceLT, Nat.reduceEqDiff]; try rfl) | refine T_seq ?_
    rw [lo_wrap hn hl] at hc ⊢
    rw [(lo_pos hc).1]

theorem szCallS_fn (a : Sl DCall) (n : Int) (h : Hp) (ha : a.Ok h) (hn : 0 ≤ n ∧ n ≤ 1048576) : Ct Try.prog 19 [a.val, .int .i64 n] h fun v h' => v = .int .i64 (szLeft n (Blk.blk a)) ∧ h' = h := by
  have hl := ha.max
  rw [blk_flat (fun _ => rfl) a]
  refine Ct_of_T (fun A W => by simp) Try.func19 rfl rfl (by simp) fun W0 => ?_
  repeat' first | refine T_seq_region rfl ?_ | refine T_region rfl ?_ | refine T_ret ?_ | refine T_block ?_ | refine T_skip ?_ | refine T_exit ?_ | (simp only [go_sem, Nat.reduceAdd, Nat.reduceBEq, Nat.reduceLeDiff, Nat.reduceLT, Nat.reduceEqDiff]; try rfl) | refine T_seq ?_
  refine T_cond rfl (fun hc => ?_) (fun hc => ?_)
  · repeat' first | refine T_seq_region rfl ?_ | refine T_region rfl ?_ | refine T_ret ?_ | refine T_block ?_ | refine T_skip ?_ | refine T_exit ?_ | (simp only [go_sem, Nat.reduceAdd, Nat.reduceBEq, Nat.reduceLeDiff, Nat.reduceLT, Nat.reduceEqDiff]; try rfl) | refine T_seq ?_
    rw [lo_wrap hn hl] at hc
    exact lo_bad (lo_neg hc) (Nat.le_refl _)
  · repeat' first | refine T_seq_region rfl ?_ | refine T_region rfl ?_ | refine T_ret ?_ | refine T_block ?_ | refine T_skip ?_ | refine T_exit ?_ | (simp only [go_sem, Nat.reduceAdd, Nat.reduceBEq, Nat.reduceLeDiff, Nat.reduceLT, Nat.reduceEqDiff]; try rfl) | refine T_seq ?_
    rw [lo_wrap hn hl] at hc ⊢
    rw [(lo_pos hc).1]

theorem szCrew_fn (c : DCrew) (n : Int) (h : Hp) (hc : Enc.ok h c) (hn : 0 ≤ n ∧ n ≤ 1048576) : Ct Try.prog 14 [.agg #[.int .i64 c.tugs, .int .i64 c.pilots, .int .i64 c.rest, c.moves.val], .int .i64 n] h fun v h' => v = .int .i64 (szLeft n (Blk.blk c)) ∧ h' = h := by
  rw [blk_DCrew]
  have hc' := hc
  obtain ⟨o_tugs, o_pilots, o_rest, o_moves⟩ := hc'
  refine Ct_of_T (fun A W => by simp) Try.func14 rfl rfl (by simp) fun W0 => ?_
  repeat' first | refine T_seq_region rfl ?_ | refine T_region rfl ?_ | refine T_ret ?_ | refine T_block ?_ | refine T_skip ?_ | refine T_exit ?_ | refine vfn_val (fun _ => szIntS_fn _ _ _ o_moves hn) ?_ | (simp only [go_sem, Nat.reduceAdd, Nat.reduceBEq, Nat.reduceLeDiff, Nat.reduceLT, Nat.reduceEqDiff]; try rfl) | refine T_seq ?_
  refine T_cond rfl (fun hd => ?_) (fun hd => ?_)
  · repeat' first | refine T_seq_region rfl ?_ | refine T_region rfl ?_ | refine T_ret ?_ | refine T_block ?_ | refine T_skip ?_ | refine T_exit ?_ | (simp only [go_sem, Nat.reduceAdd, Nat.reduceBEq, Nat.reduceLeDiff, Nat.reduceLT, Nat.reduceEqDiff]; try rfl) | refine T_seq ?_
    exact lo_bad (of_decide_eq_true hd) (by omega)
  have hp0 := lo_ge hd
  repeat' first | refine T_seq_region rfl ?_ | refine T_region rfl ?_ | refine T_ret ?_ | refine T_block ?_ | refine T_skip ?_ | refine T_exit ?_ | (simp only [go_sem, Nat.reduceAdd, Nat.reduceBEq, Nat.reduceLeDiff, Nat.reduceLT, Nat.reduceEqDiff]; try rfl) | refine T_seq ?_

theorem szPassageS_fn (a : Sl DPassage) (n : Int) (h : Hp) (ha : a.Ok h) (hn : 0 ≤ n ∧ n ≤ 1048576) : Ct Try.prog 70 [a.val, .int .i64 n] h fun v h' => v = .int .i64 (szLeft n (Blk.blk a)) ∧ h' = h := by
  have hl := ha.max
  rw [blk_flat (fun _ => rfl) a]
  refine Ct_of_T (fun A W => by simp) Try.func70 rfl rfl (by simp) fun W0 => ?_
  repeat' first | refine T_seq_region rfl ?_ | refine T_region rfl ?_ | refine T_ret ?_ | refine T_block ?_ | refine T_skip ?_ | refine T_exit ?_ | (simp only [go_sem, Nat.reduceAdd, Nat.reduceBEq, Nat.reduceLeDiff, Nat.reduceLT, Nat.reduceEqDiff]; try rfl) | refine T_seq ?_
  refine T_cond rfl (fun hc => ?_) (fun hc => ?_)
  · repeat' first | refine T_seq_region rfl ?_ | refine T_region rfl ?_ | refine T_ret ?_ | refine T_block ?_ | refine T_skip ?_ | refine T_exit ?_ | (simp only [go_sem, Nat.reduceAdd, Nat.reduceBEq, Nat.reduceLeDiff, Nat.reduceLT, Nat.reduceEqDiff]; try rfl) | refine T_seq ?_
    rw [lo_wrap hn hl] at hc
    exact lo_bad (lo_neg hc) (Nat.le_refl _)
  · repeat' first | refine T_seq_region rfl ?_ | refine T_region rfl ?_ | refine T_ret ?_ | refine T_block ?_ | refine T_skip ?_ | refine T_exit ?_ | (simp only [go_sem, Nat.reduceAdd, Nat.reduceBEq, Nat.reduceLeDiff, Nat.reduceLT, Nat.reduceEqDiff]; try rfl) | refine T_seq ?_
    rw [lo_wrap hn hl] at hc ⊢
    rw [(lo_pos hc).1]

theorem szOption_fn (c : DOption) (n : Int) (h : Hp) (hc : Enc.ok h c) (hn : 0 ≤ n ∧ n ≤ 1048576) : Ct Try.prog 26 [.agg #[.int .i64 c.start, .int .i64 c.arr, .int .i64 c.cost, c.pas.val], .int .i64 n] h fun v h' => v = .int .i64 (szLeft n (Blk.blk c)) ∧ h' = h := by
  rw [blk_DOption]
  have hc' := hc
  obtain ⟨o_start, o_arr, o_cost, o_pas⟩ := hc'
  refine Ct_of_T (fun A W => by simp) Try.func26 rfl rfl (by simp) fun W0 => ?_
  repeat' first | refine T_seq_region rfl ?_ | refine T_region rfl ?_ | refine T_ret ?_ | refine T_block ?_ | refine T_skip ?_ | refine T_exit ?_ | refine vfn_val (fun _ => szPassageS_fn _ _ _ o_pas hn) ?_ | (simp only [go_sem, Nat.reduceAdd, Nat.reduceBEq, Nat.reduceLeDiff, Nat.reduceLT, Nat.reduceEqDiff]; try rfl) | refine T_seq ?_
  refine T_cond rfl (fun hd => ?_) (fun hd => ?_)
  · repeat' first | refine T_seq_region rfl ?_ | refine T_region rfl ?_ | refine T_ret ?_ | refine T_block ?_ | refine T_skip ?_ | refine T_exit ?_ | (simp only [go_sem, Nat.reduceAdd, Nat.reduceBEq, Nat.reduceLeDiff, Nat.reduceLT, Nat.reduceEqDiff]; try rfl) | refine T_seq ?_
    exact lo_bad (of_decide_eq_true hd) (by omega)
  have hp0 := lo_ge hd
  repeat' first | refine T_seq_region rfl ?_ | refine T_region rfl ?_ | refine T_ret ?_ | refine T_block ?_ | refine T_skip ?_ | refine T_exit ?_ | (simp only [go_sem, Nat.reduceAdd, Nat.reduceBEq, Nat.reduceLeDiff, Nat.reduceLT, Nat.reduceEqDiff]; try rfl) | refine T_seq ?_

theorem szOptionS_fn (a : Sl DOption) (n : Int) (h : Hp) (ha : a.Ok h) (hn : 0 ≤ n ∧ n ≤ 1048576) : Ct Try.prog 33 [a.val, .int .i64 n] h fun v h' => v = .int .i64 (szLeft n (Blk.blk a)) ∧ h' = h := by
  have hl := ha.max
  rw [blk_sl]
  refine Ct_of_T (fun A W => by simp) Try.func33 rfl rfl (by simp) fun W0 => ?_
  repeat' first | refine T_seq_region rfl ?_ | refine T_region rfl ?_ | refine T_ret ?_ | refine T_block ?_ | refine T_skip ?_ | refine T_exit ?_ | (simp only [go_sem, Nat.reduceAdd, Nat.reduceBEq, Nat.reduceLeDiff, Nat.reduceLT, Nat.reduceEqDiff]; try rfl) | refine T_seq ?_
  refine T_cond rfl (fun hc => ?_) (fun hc => ?_)
  · repeat' first | refine T_seq_region rfl ?_ | refine T_region rfl ?_ | refine T_ret ?_ | refine T_block ?_ | refine T_skip ?_ | refine T_exit ?_ | (simp only [go_sem, Nat.reduceAdd, Nat.reduceBEq, Nat.reduceLeDiff, Nat.reduceLT, Nat.reduceEqDiff]; try rfl) | refine T_seq ?_
    rw [lo_wrap hn hl] at hc
    exact lo_bad (lo_neg hc) (Nat.le_add_right _ _)
  rw [lo_wrap hn hl] at hc
  have hp := lo_pos hc
  repeat' first | refine T_seq_region rfl ?_ | refine T_region rfl ?_ | refine T_ret ?_ | refine T_block ?_ | refine T_skip ?_ | refine T_exit ?_ | (simp only [go_sem, Nat.reduceAdd, Nat.reduceBEq, Nat.reduceLeDiff, Nat.reduceLT, Nat.reduceEqDiff]; try rfl) | refine T_seq ?_
  refine T_loop (ι := Nat) (fun k => ⟨[(0, true, .c (.v a.val)), (1, true, .c (.v (.int .i64 (szLeft n (a.l.length + ((a.l.map Blk.blk).take k).sum))))), (5, true, .c (.v (.int .i64 k)))], [], h, 0⟩) (fun k => k ≤ a.l.length ∧ 0 ≤ szLeft n (a.l.length + ((a.l.map Blk.blk).take k).sum)) (fun k => a.l.length - k) 0 ⟨Nat.zero_le _, hp.2⟩ ?_ ?_
  · simp only [go_sem, Nat.reduceAdd, Nat.reduceBEq, Nat.reduceLeDiff, Nat.reduceLT, Nat.reduceEqDiff]
    exact ⟨by rw [lo_wrap hn hl, hp.1]; rfl, rfl⟩
  intro k hk
  repeat' first | refine T_seq_region rfl ?_ | refine T_region rfl ?_ | refine T_ret ?_ | refine T_block ?_ | refine T_skip ?_ | refine T_exit ?_ | (simp only [go_sem, Nat.reduceAdd, Nat.reduceBEq, Nat.reduceLeDiff, Nat.reduceLT, Nat.reduceEqDiff]; try rfl) | refine T_seq ?_
  refine T_cond rfl (fun hd => ?_) (fun hd => ?_)
  · have hlt := lt_of_dec hd
    have hlm : k < (a.l.map Blk.blk).length := by rw [List.length_map]; exact hlt
    repeat' first | refine T_seq_region rfl ?_ | refine T_region rfl ?_ | refine T_ret ?_ | refine T_block ?_ | refine T_skip ?_ | refine T_exit ?_ | refine vfn_val (fun _ => szOption_fn _ _ _ (ha.el hlt) (lo_in hn hk.2)) ?_ | (simp only [go_sem, Nat.reduceAdd, Nat.reduceBEq, Nat.reduceLeDiff, Nat.reduceLT, Nat.reduceEqDiff, at_DOption ha hlt, ha.some hlt, hlt, Int.toNat_natCast]; try rfl) | refine T_seq ?_
    refine T_cond rfl (fun hg => ?_) (fun hg => ?_)
    · repeat' first | refine T_seq_region rfl ?_ | refine T_region rfl ?_ | refine T_ret ?_ | refine T_block ?_ | refine T_skip ?_ | refine T_exit ?_ | (simp only [go_sem, Nat.reduceAdd, Nat.reduceBEq, Nat.reduceLeDiff, Nat.reduceLT, Nat.reduceEqDiff]; try rfl) | refine T_seq ?_
      rw [szLeft_add hk.2] at hg
      refine lo_bad (of_decide_eq_true hg) ?_
      have := sum_take hlm
      rw [List.getElem_map] at this
      have := sum_take_le (l := a.l.map Blk.blk) (k := k + 1)
      omega
    · rw [szLeft_add hk.2] at hg
      have hs := sum_take hlm
      rw [List.getElem_map] at hs
      have he : a.l.length + ((a.l.map Blk.blk).take k).sum + Blk.blk a.l[k] = a.l.length + ((a.l.map Blk.blk).take (k + 1)).sum := by omega
      rw [he] at hg
      repeat' first | refine T_seq_region rfl ?_ | refine T_region rfl ?_ | refine T_ret ?_ | refine T_block ?_ | refine T_skip ?_ | refine T_exit ?_ | (simp only [go_sem, Nat.reduceAdd, Nat.reduceBEq, Nat.reduceLeDiff, Nat.reduceLT, Nat.reduceEqDiff]; try rfl) | refine T_seq ?_
      exact ⟨k + 1, ⟨hlt, lo_ge hg⟩, by omega, by rw [szLeft_add hk.2, he], svInt (wrapS hlt hl)⟩
  · have hge := ge_of_dec hd
    repeat' first | refine T_seq_region rfl ?_ | refine T_region rfl ?_ | refine T_ret ?_ | refine T_block ?_ | refine T_skip ?_ | refine T_exit ?_ | (simp only [go_sem, Nat.reduceAdd, Nat.reduceBEq, Nat.reduceLeDiff, Nat.reduceLT, Nat.reduceEqDiff]; try rfl) | refine T_seq ?_
    rw [List.take_of_length_le (by rw [List.length_map]; exact hge)]
end Go.Proofs.Ytkoghfeelonhhaa
