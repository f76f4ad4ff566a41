/- What functions of the given program compute, each as a contract over what its arguments read as. No condition beside those that each theorem states. -/
import Derived.Test.YtfbdafdbinbeaaaOpt2
set_option linter.unusedVariables false
set_option linter.unusedSimpArgs false
namespace Go.Proofs.Ytfbdafdbinbeaaa
open Go Go.SL
set_option maxHeartbeats 1000000
theorem impl_KeptCalls_fn (a b : Sl DOption) (h : Hp) (ha : a.Ok h) (hb : b.Ok h) (hz : Sz.sz (Con.con a) ≤ 1048576) : Ct Try.prog 15 [a.val, b.val] h fun v h' => ∃ s : Sl Int, v = s.val ∧ Con.con s = F_KeptCalls (Con.con a) (Con.con b) ∧ s.Ok h' ∧ Mine h h' s := by
  have hl := ha.max
  have hz1 := sz_len hz
  rw [con_len'] at hz1
  have hF : F_KeptCalls (Con.con a) (Con.con b) = keptGo (Con.con a) (Con.con b) (min a.l.length b.l.length) := by rw [F_KeptCalls, con_sl, con_sl, List.length_map, List.length_map]
  rw [hF]
  refine Ct_of_T (fun A W => by simp) Try.func15 rfl rfl (by simp) fun W0 => ?_
  repeat' first | refine T_seq_region rfl ?_ | refine T_region rfl ?_ | refine T_ret ?_ | refine T_block ?_ | refine T_skip ?_ | refine T_exit ?_ | (simp (maxSteps := 2000000) only [go_sem, Nat.reduceAdd, Nat.reduceMul, Nat.reduceBEq, Nat.reduceLeDiff, Nat.reduceLT, Nat.reduceEqDiff]; try rfl) | refine T_seq ?_ | (refine And.intro ?_ ?_; focus (intros; simp_all only [Bool.or_eq_false_iff, Bool.or_eq_true, Bool.and_eq_true, and_self, true_and, and_true]; done))
  refine T_loopG (ι := Nat) (fun k => ⟨[(0, true, .c (.v a.val)), (1, true, .c (.v b.val)), (5, true, .c (.s 0)), (12, true, .c (.v (.int .i64 (min (a.l.length : Int) b.l.length)))), (13, true, .c (.v (.int .i64 k)))], [(0, .row 3 1 (keptGo (Con.con a) (Con.con b) k).length ((keptGo (Con.con a) (Con.con b) k).flatMap Enc.enc))], h, 1⟩) (fun k => k ≤ a.l.length ∧ k ≤ b.l.length) (fun k => a.l.length - k) 0 ⟨Nat.zero_le _, Nat.zero_le _⟩ [0] ?_ ?_
  · simp (maxSteps := 2000000) only [go_sem, Nat.reduceAdd, Nat.reduceMul, Nat.reduceBEq, Nat.reduceLeDiff, Nat.reduceLT, Nat.reduceEqDiff]
    exact ⟨rfl, rfl, rfl⟩
  intro k hk
  repeat' first | refine T_seq_region rfl ?_ | refine T_region rfl ?_ | refine T_ret ?_ | refine T_block ?_ | refine T_skip ?_ | refine T_exit ?_ | (simp (maxSteps := 2000000) only [go_sem, Nat.reduceAdd, Nat.reduceMul, Nat.reduceBEq, Nat.reduceLeDiff, Nat.reduceLT, Nat.reduceEqDiff]; try rfl) | refine T_seq ?_ | (refine And.intro ?_ ?_; focus (intros; simp_all only [Bool.or_eq_false_iff, Bool.or_eq_true, Bool.and_eq_true, and_self, true_and, and_true]; done))
  refine T_cond rfl (fun hd => ?_) (fun hd => ?_)
  · have hd' := of_decide_eq_true hd
    have hlt : k < a.l.length := by omega
    have hlt' : k < b.l.length := by omega
    repeat' first | refine T_seq_region rfl ?_ | refine T_region rfl ?_ | refine T_ret ?_ | refine T_block ?_ | refine T_skip ?_ | refine T_exit ?_ | (simp (maxSteps := 2000000) only [go_sem, Nat.reduceAdd, Nat.reduceMul, Nat.reduceBEq, Nat.reduceLeDiff, Nat.reduceLT, Nat.reduceEqDiff]; try rfl) | refine T_seq ?_ | (refine And.intro ?_ ?_; focus (intros; simp_all only [Bool.or_eq_false_iff, Bool.or_eq_true, Bool.and_eq_true, and_self, true_and, and_true]; done))
    refine T_any rfl ?_
    refine V_takes [0, 1, 2, 3, 4, 5, 6, 7] rfl (by kernel_rfl) ?_
    simp (maxSteps := 2000000) only [go_sem, Nat.reduceAdd, Nat.reduceMul, Nat.reduceBEq, Nat.reduceLeDiff, Nat.reduceLT, Nat.reduceEqDiff, at_DOption ha hlt, ha.some hlt, hlt, at_DOption hb hlt', hb.some hlt', hlt', Int.toNat_natCast]
    refine V_branch [8] (by kernel_rfl) (by kernel_rfl) ?_
    simp (maxSteps := 2000000) only [go_sem, Nat.reduceAdd, Nat.reduceMul, Nat.reduceBEq, Nat.reduceLeDiff, Nat.reduceLT, Nat.reduceEqDiff, at_DOption ha hlt, ha.some hlt, hlt, at_DOption hb hlt', hb.some hlt', hlt', Int.toNat_natCast]
    refine vfn_val (fun _ => impl_SameOptions_fn _ _ _ (ha.el hlt) (hb.el hlt')) ?_
    simp (maxSteps := 2000000) only [go_sem, Nat.reduceAdd, Nat.reduceMul, Nat.reduceBEq, Nat.reduceLeDiff, Nat.reduceLT, Nat.reduceEqDiff, at_DOption ha hlt, ha.some hlt, hlt, at_DOption hb hlt', hb.some hlt', hlt', Int.toNat_natCast]
    refine V_done (by kernel_rfl) ?_
    repeat' first | refine T_seq_region rfl ?_ | refine T_region rfl ?_ | refine T_ret ?_ | refine T_block ?_ | refine T_skip ?_ | refine T_exit ?_ | (simp (maxSteps := 2000000) only [go_sem, Nat.reduceAdd, Nat.reduceMul, Nat.reduceBEq, Nat.reduceLeDiff, Nat.reduceLT, Nat.reduceEqDiff]; try rfl) | refine T_seq ?_ | (refine And.intro ?_ ?_; focus (intros; simp_all only [Bool.or_eq_false_iff, Bool.or_eq_true, Bool.and_eq_true, and_self, true_and, and_true]; done))
    refine T_cond rfl (fun hq => ?_) (fun hq => ?_)
    · have hlk := keptGo_len (Con.con a) (Con.con b) k
      have hs : keptGo (Con.con a) (Con.con b) (k + 1) = keptGo (Con.con a) (Con.con b) k ++ [(k : Int)] := by
        show (if _ then _ else _) = _
        rw [if_pos]
        rw [con_at hlt, con_at hlt']
        exact congrArg some (of_decide_eq_true hq)
      repeat' first | refine T_seq_region rfl ?_ | refine T_region rfl ?_ | refine T_ret ?_ | refine T_block ?_ | refine T_skip ?_ | refine T_exit ?_ | (simp (maxSteps := 2000000) only [go_sem, Nat.reduceAdd, Nat.reduceMul, Nat.reduceBEq, Nat.reduceLeDiff, Nat.reduceLT, Nat.reduceEqDiff]; try rfl) | refine T_seq ?_ | (refine And.intro ?_ ?_; focus (intros; simp_all only [Bool.or_eq_false_iff, Bool.or_eq_true, Bool.and_eq_true, and_self, true_and, and_true]; done))
      refine ⟨by simp only [maxLen]; omega, by omega, ?_⟩
      repeat' first | refine T_seq_region rfl ?_ | refine T_region rfl ?_ | refine T_ret ?_ | refine T_block ?_ | refine T_skip ?_ | refine T_exit ?_ | (simp (maxSteps := 2000000) only [go_sem, Nat.reduceAdd, Nat.reduceMul, Nat.reduceBEq, Nat.reduceLeDiff, Nat.reduceLT, Nat.reduceEqDiff]; try rfl) | refine T_seq ?_ | (refine And.intro ?_ ?_; focus (intros; simp_all only [Bool.or_eq_false_iff, Bool.or_eq_true, Bool.and_eq_true, and_self, true_and, and_true]; done))
      refine ⟨k + 1, [2], ⟨hlt, hlt'⟩, by omega, ?_⟩
      simp (maxSteps := 2000000) only [go_sem, Nat.reduceAdd, Nat.reduceMul, Nat.reduceBEq, Nat.reduceLeDiff, Nat.reduceLT, Nat.reduceEqDiff]
      refine ⟨svInt (wrapS hlt (by omega)), ?_, rfl⟩
      rw [hs, List.length_append, List.flatMap_append]
      rfl
    · have hs : keptGo (Con.con a) (Con.con b) (k + 1) = keptGo (Con.con a) (Con.con b) k := by
        show (if _ then _ else _) = _
        rw [if_neg]
        rw [con_at hlt, con_at hlt']
        exact fun e => of_decide_eq_false hq (Option.some.inj e)
      repeat' first | refine T_seq_region rfl ?_ | refine T_region rfl ?_ | refine T_ret ?_ | refine T_block ?_ | refine T_skip ?_ | refine T_exit ?_ | (simp (maxSteps := 2000000) only [go_sem, Nat.reduceAdd, Nat.reduceMul, Nat.reduceBEq, Nat.reduceLeDiff, Nat.reduceLT, Nat.reduceEqDiff]; try rfl) | refine T_seq ?_ | (refine And.intro ?_ ?_; focus (intros; simp_all only [Bool.or_eq_false_iff, Bool.or_eq_true, Bool.and_eq_true, and_self, true_and, and_true]; done))
      refine ⟨k + 1, [0], ⟨hlt, hlt'⟩, by omega, ?_⟩
      simp (maxSteps := 2000000) only [go_sem, Nat.reduceAdd, Nat.reduceMul, Nat.reduceBEq, Nat.reduceLeDiff, Nat.reduceLT, Nat.reduceEqDiff]
      exact ⟨svInt (wrapS hlt (by omega)), by rw [hs], rfl⟩
  · have hge := of_decide_eq_false hd
    have hke : k = min a.l.length b.l.length := by omega
    refine T_exit ?_
    simp (maxSteps := 2000000) only [go_sem, Nat.reduceAdd, Nat.reduceMul, Nat.reduceBEq, Nat.reduceLeDiff, Nat.reduceLT, Nat.reduceEqDiff]
    refine T_pubM 0 (keptGo (Con.con a) (Con.con b) k) rfl rfl rfl rfl (by decide) (fun x hx => by have := keptGo_in _ _ _ _ hx; show I64 x; unfold I64; omega) h (Hp.le_refl _) (Mines.flat (fun _ => rfl) (fun _ => trivial)) fun s h' e1 e2 e3 e4 => ?_
    repeat' first | refine T_seq_region rfl ?_ | refine T_region rfl ?_ | refine T_ret ?_ | refine T_block ?_ | refine T_skip ?_ | refine T_exit ?_ | (simp (maxSteps := 2000000) only [go_sem, Nat.reduceAdd, Nat.reduceMul, Nat.reduceBEq, Nat.reduceLeDiff, Nat.reduceLT, Nat.reduceEqDiff]; try rfl) | refine T_seq ?_ | (refine And.intro ?_ ?_; focus (intros; simp_all only [Bool.or_eq_false_iff, Bool.or_eq_true, Bool.and_eq_true, and_self, true_and, and_true]; done))
    exact ⟨s, rfl, by rw [con_ints, e1, hke], e2, e4⟩
theorem spec_KeptCalls_fn (a b : Sl DOption) (h : Hp) (ha : a.Ok h) (hb : b.Ok h) (hz : Sz.sz (Con.con a) ≤ 1048576) : Ct Try.prog 13 [a.val, b.val] h fun v h' => ∃ s : Sl Int, v = s.val ∧ Con.con s = F_KeptCalls (Con.con a) (Con.con b) ∧ s.Ok h' ∧ Mine h h' s := by
  have hl := ha.max
  have hz1 := sz_len hz
  rw [con_len'] at hz1
  have hF : F_KeptCalls (Con.con a) (Con.con b) = keptGo (Con.con a) (Con.con b) (min a.l.length b.l.length) := by rw [F_KeptCalls, con_sl, con_sl, List.length_map, List.length_map]
  rw [hF]
  refine Ct_of_T (fun A W => by simp) Try.func13 rfl rfl (by simp) fun W0 => ?_
  repeat' first | refine T_seq_region rfl ?_ | refine T_region rfl ?_ | refine T_ret ?_ | refine T_block ?_ | refine T_skip ?_ | refine T_exit ?_ | (simp (maxSteps := 2000000) only [go_sem, Nat.reduceAdd, Nat.reduceMul, Nat.reduceBEq, Nat.reduceLeDiff, Nat.reduceLT, Nat.reduceEqDiff]; try rfl) | refine T_seq ?_ | (refine And.intro ?_ ?_; focus (intros; simp_all only [Bool.or_eq_false_iff, Bool.or_eq_true, Bool.and_eq_true, and_self, true_and, and_true]; done))
  refine T_loopG (ι := Nat) (fun k => ⟨[(0, true, .c (.v a.val)), (1, true, .c (.v b.val)), (5, true, .c (.s 0)), (6, true, .c (.v (.int .i64 k)))], [(0, .row 3 1 (keptGo (Con.con a) (Con.con b) k).length ((keptGo (Con.con a) (Con.con b) k).flatMap Enc.enc))], h, 1⟩) (fun k => k ≤ a.l.length ∧ k ≤ b.l.length) (fun k => a.l.length - k) 0 ⟨Nat.zero_le _, Nat.zero_le _⟩ [0] ?_ ?_
  · simp (maxSteps := 2000000) only [go_sem, Nat.reduceAdd, Nat.reduceMul, Nat.reduceBEq, Nat.reduceLeDiff, Nat.reduceLT, Nat.reduceEqDiff]
    exact ⟨rfl, rfl, rfl⟩
  intro k hk
  repeat' first | refine T_seq_region rfl ?_ | refine T_region rfl ?_ | refine T_ret ?_ | refine T_block ?_ | refine T_skip ?_ | refine T_exit ?_ | (simp (maxSteps := 2000000) only [go_sem, Nat.reduceAdd, Nat.reduceMul, Nat.reduceBEq, Nat.reduceLeDiff, Nat.reduceLT, Nat.reduceEqDiff]; try rfl) | refine T_seq ?_ | (refine And.intro ?_ ?_; focus (intros; simp_all only [Bool.or_eq_false_iff, Bool.or_eq_true, Bool.and_eq_true, and_self, true_and, and_true]; done))
  refine T_cond rfl (fun hd => ?_) (fun hd => ?_)
  · have hd' := of_decide_eq_true hd
    have hlt : k < a.l.length := by omega
    have hlt' : k < b.l.length := by omega
    repeat' first | refine T_seq_region rfl ?_ | refine T_region rfl ?_ | refine T_ret ?_ | refine T_block ?_ | refine T_skip ?_ | refine T_exit ?_ | (simp (maxSteps := 2000000) only [go_sem, Nat.reduceAdd, Nat.reduceMul, Nat.reduceBEq, Nat.reduceLeDiff, Nat.reduceLT, Nat.reduceEqDiff]; try rfl) | refine T_seq ?_ | (refine And.intro ?_ ?_; focus (intros; simp_all only [Bool.or_eq_false_iff, Bool.or_eq_true, Bool.and_eq_true, and_self, true_and, and_true]; done))
    refine T_any rfl ?_
    refine V_takes [0, 1, 2, 3, 4, 5, 6, 7] rfl (by kernel_rfl) ?_
    simp (maxSteps := 2000000) only [go_sem, Nat.reduceAdd, Nat.reduceMul, Nat.reduceBEq, Nat.reduceLeDiff, Nat.reduceLT, Nat.reduceEqDiff, at_DOption ha hlt, ha.some hlt, hlt, at_DOption hb hlt', hb.some hlt', hlt', Int.toNat_natCast]
    refine V_branch [8] (by kernel_rfl) (by kernel_rfl) ?_
    simp (maxSteps := 2000000) only [go_sem, Nat.reduceAdd, Nat.reduceMul, Nat.reduceBEq, Nat.reduceLeDiff, Nat.reduceLT, Nat.reduceEqDiff, at_DOption ha hlt, ha.some hlt, hlt, at_DOption hb hlt', hb.some hlt', hlt', Int.toNat_natCast]
    refine vfn_val (fun _ => spec_SameOptions_fn _ _ _ (ha.el hlt) (hb.el hlt')) ?_
    simp (maxSteps := 2000000) only [go_sem, Nat.reduceAdd, Nat.reduceMul, Nat.reduceBEq, Nat.reduceLeDiff, Nat.reduceLT, Nat.reduceEqDiff, at_DOption ha hlt, ha.some hlt, hlt, at_DOption hb hlt', hb.some hlt', hlt', Int.toNat_natCast]
    refine V_done (by kernel_rfl) ?_
    repeat' first | refine T_seq_region rfl ?_ | refine T_region rfl ?_ | refine T_ret ?_ | refine T_block ?_ | refine T_skip ?_ | refine T_exit ?_ | (simp (maxSteps := 2000000) only [go_sem, Nat.reduceAdd, Nat.reduceMul, Nat.reduceBEq, Nat.reduceLeDiff, Nat.reduceLT, Nat.reduceEqDiff]; try rfl) | refine T_seq ?_ | (refine And.intro ?_ ?_; focus (intros; simp_all only [Bool.or_eq_false_iff, Bool.or_eq_true, Bool.and_eq_true, and_self, true_and, and_true]; done))
    refine T_cond rfl (fun hq => ?_) (fun hq => ?_)
    · have hlk := keptGo_len (Con.con a) (Con.con b) k
      have hs : keptGo (Con.con a) (Con.con b) (k + 1) = keptGo (Con.con a) (Con.con b) k ++ [(k : Int)] := by
        show (if _ then _ else _) = _
        rw [if_pos]
        rw [con_at hlt, con_at hlt']
        exact congrArg some (of_decide_eq_true hq)
      repeat' first | refine T_seq_region rfl ?_ | refine T_region rfl ?_ | refine T_ret ?_ | refine T_block ?_ | refine T_skip ?_ | refine T_exit ?_ | (simp (maxSteps := 2000000) only [go_sem, Nat.reduceAdd, Nat.reduceMul, Nat.reduceBEq, Nat.reduceLeDiff, Nat.reduceLT, Nat.reduceEqDiff]; try rfl) | refine T_seq ?_ | (refine And.intro ?_ ?_; focus (intros; simp_all only [Bool.or_eq_false_iff, Bool.or_eq_true, Bool.and_eq_true, and_self, true_and, and_true]; done))
      refine ⟨by simp only [maxLen]; omega, by omega, ?_⟩
      repeat' first | refine T_seq_region rfl ?_ | refine T_region rfl ?_ | refine T_ret ?_ | refine T_block ?_ | refine T_skip ?_ | refine T_exit ?_ | (simp (maxSteps := 2000000) only [go_sem, Nat.reduceAdd, Nat.reduceMul, Nat.reduceBEq, Nat.reduceLeDiff, Nat.reduceLT, Nat.reduceEqDiff]; try rfl) | refine T_seq ?_ | (refine And.intro ?_ ?_; focus (intros; simp_all only [Bool.or_eq_false_iff, Bool.or_eq_true, Bool.and_eq_true, and_self, true_and, and_true]; done))
      refine ⟨k + 1, [2], ⟨hlt, hlt'⟩, by omega, ?_⟩
      simp (maxSteps := 2000000) only [go_sem, Nat.reduceAdd, Nat.reduceMul, Nat.reduceBEq, Nat.reduceLeDiff, Nat.reduceLT, Nat.reduceEqDiff]
      refine ⟨svInt (wrapS hlt (by omega)), ?_, rfl⟩
      rw [hs, List.length_append, List.flatMap_append]
      rfl
    · have hs : keptGo (Con.con a) (Con.con b) (k + 1) = keptGo (Con.con a) (Con.con b) k := by
        show (if _ then _ else _) = _
        rw [if_neg]
        rw [con_at hlt, con_at hlt']
        exact fun e => of_decide_eq_false hq (Option.some.inj e)
      repeat' first | refine T_seq_region rfl ?_ | refine T_region rfl ?_ | refine T_ret ?_ | refine T_block ?_ | refine T_skip ?_ | refine T_exit ?_ | (simp (maxSteps := 2000000) only [go_sem, Nat.reduceAdd, Nat.reduceMul, Nat.reduceBEq, Nat.reduceLeDiff, Nat.reduceLT, Nat.reduceEqDiff]; try rfl) | refine T_seq ?_ | (refine And.intro ?_ ?_; focus (intros; simp_all only [Bool.or_eq_false_iff, Bool.or_eq_true, Bool.and_eq_true, and_self, true_and, and_true]; done))
      refine ⟨k + 1, [0], ⟨hlt, hlt'⟩, by omega, ?_⟩
      simp (maxSteps := 2000000) only [go_sem, Nat.reduceAdd, Nat.reduceMul, Nat.reduceBEq, Nat.reduceLeDiff, Nat.reduceLT, Nat.reduceEqDiff]
      exact ⟨svInt (wrapS hlt (by omega)), by rw [hs], rfl⟩
  · have hge := of_decide_eq_false hd
    have hke : k = min a.l.length b.l.length := by omega
    refine T_exit ?_
    simp (maxSteps := 2000000) only [go_sem, Nat.reduceAdd, Nat.reduceMul, Nat.reduceBEq, Nat.reduceLeDiff, Nat.reduceLT, Nat.reduceEqDiff]
    refine T_pubM 0 (keptGo (Con.con a) (Con.con b) k) rfl rfl rfl rfl (by decide) (fun x hx => by have := keptGo_in _ _ _ _ hx; show I64 x; unfold I64; omega) h (Hp.le_refl _) (Mines.flat (fun _ => rfl) (fun _ => trivial)) fun s h' e1 e2 e3 e4 => ?_
    repeat' first | refine T_seq_region rfl ?_ | refine T_region rfl ?_ | refine T_ret ?_ | refine T_block ?_ | refine T_skip ?_ | refine T_exit ?_ | (simp (maxSteps := 2000000) only [go_sem, Nat.reduceAdd, Nat.reduceMul, Nat.reduceBEq, Nat.reduceLeDiff, Nat.reduceLT, Nat.reduceEqDiff]; try rfl) | refine T_seq ?_ | (refine And.intro ?_ ?_; focus (intros; simp_all only [Bool.or_eq_false_iff, Bool.or_eq_true, Bool.and_eq_true, and_self, true_and, and_true]; done))
    exact ⟨s, rfl, by rw [con_ints, e1, hke], e2, e4⟩
theorem sz_F_KeptCalls (a b : List POption) (hz : Sz.sz a ≤ 1048576) : Sz.sz (F_KeptCalls a b) ≤ 1048576 := by
  have h0 : ∀ l : List Int, (l.map Sz.sz).sum = 0 := fun l => by induction l with | nil => rfl | cons x l ih => rw [List.map_cons, List.sum_cons, ih]; rfl
  have h1 := keptGo_len a b (min a.length b.length)
  have h2 := sz_len hz
  have h3 : Sz.sz (F_KeptCalls a b) = (F_KeptCalls a b).length := by rw [sz_list, h0, Nat.add_zero]
  have h4 : (F_KeptCalls a b).length = (keptGo a b (min a.length b.length)).length := rfl
  omega
end Go.Proofs.Ytfbdafdbinbeaaa
