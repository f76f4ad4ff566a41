/- What functions of the given program compute, each as a contract over what its arguments read as. No condition beside those that each theorem states. -/
import Derived.Test.YtfbdafdbinbeaaaTy
import Derived.Test.YtfbdafdbinbeaaaSLO
set_option linter.unusedVariables false
set_option linter.unusedSimpArgs false
namespace Go.Proofs.Ytfbdafdbinbeaaa
open Go Go.SL
set_option maxHeartbeats 1000000
theorem toCall_fn (c : DCall) (h : Hp) : Ct Try.prog 56 [.agg #[.int .i64 c.ship, .int .i64 c.src, .int .i64 c.dst, .int .i64 c.ready, .int .i64 c.due]] h fun v h' => v = .agg #[.int .i64 c.ship, .int .i64 c.src, .int .i64 c.dst, .int .i64 c.ready, .int .i64 c.due] ∧ h' = h := by
  refine Ct_of_T (fun A W => by simp) Try.func56 rfl rfl (by simp) fun W0 => ?_
  repeat' first | refine T_seq_region rfl ?_ | refine T_region rfl ?_ | refine T_ret ?_ | refine T_block ?_ | refine T_skip ?_ | refine T_exit ?_ | (simp (maxSteps := 2000000) only [go_sem, Nat.reduceAdd, Nat.reduceMul, Nat.reduceBEq, Nat.reduceLeDiff, Nat.reduceLT, Nat.reduceEqDiff]; try rfl) | refine T_seq ?_ | (refine And.intro ?_ ?_; focus (intros; simp_all only [Bool.or_eq_false_iff, Bool.or_eq_true, Bool.and_eq_true, and_self, true_and, and_true]; done))

theorem toIntS_fn (a : Sl Int) (h : Hp) (ha : a.Ok h) (hb : Blk.blk a ≤ 1048576) : Ct Try.prog 145 [a.val] h fun v h' => ∃ s : Sl Int, v = s.val ∧ Con.con s = Con.con a ∧ s.Ok h' ∧ Mine h h' s := by
  have hl : a.l.length ≤ 1048576 := Nat.le_trans (Nat.le_add_right _ _) hb
  refine Ct_of_T (fun A W => by simp) Try.func145 rfl rfl (by simp) fun W0 => ?_
  repeat' first | refine T_seq_region rfl ?_ | refine T_region rfl ?_ | refine T_ret ?_ | refine T_block ?_ | refine T_skip ?_ | refine T_exit ?_ | (simp (maxSteps := 2000000) only [go_sem, Nat.reduceAdd, Nat.reduceMul, Nat.reduceBEq, Nat.reduceLeDiff, Nat.reduceLT, Nat.reduceEqDiff]; try rfl) | refine T_seq ?_ | (refine And.intro ?_ ?_; focus (intros; simp_all only [Bool.or_eq_false_iff, Bool.or_eq_true, Bool.and_eq_true, and_self, true_and, and_true]; done))
  refine ⟨by simp only [maxLen]; omega, by omega, ?_⟩
  repeat' first | refine T_seq_region rfl ?_ | refine T_region rfl ?_ | refine T_ret ?_ | refine T_block ?_ | refine T_skip ?_ | refine T_exit ?_ | (simp (maxSteps := 2000000) only [go_sem, Nat.reduceAdd, Nat.reduceMul, Nat.reduceBEq, Nat.reduceLeDiff, Nat.reduceLT, Nat.reduceEqDiff]; try rfl) | refine T_seq ?_ | (refine And.intro ?_ ?_; focus (intros; simp_all only [Bool.or_eq_false_iff, Bool.or_eq_true, Bool.and_eq_true, and_self, true_and, and_true]; done))
  refine T_loop (ι := Nat) (fun k => ⟨[(0, true, .c (.v a.val)), (3, true, .c (.s 0)), (4, true, .c (.v (.int .i64 k)))], [(0, .row 3 1 a.l.length (conv (a.l.take k) a.l.length [.int .i64 0]))], h, 1⟩) (fun k => k ≤ a.l.length) (fun k => a.l.length - k) 0 (Nat.zero_le _) ?_ ?_
  · simp (maxSteps := 2000000) only [go_sem, Nat.reduceAdd, Nat.reduceMul, Nat.reduceBEq, Nat.reduceLeDiff, Nat.reduceLT, Nat.reduceEqDiff]
    exact ⟨rfl, row_ext (madeC (α := Int) (z := #[.int .i64 0]) (by decide))⟩
  intro k hk
  repeat' first | refine T_seq_region rfl ?_ | refine T_region rfl ?_ | refine T_ret ?_ | refine T_block ?_ | refine T_skip ?_ | refine T_exit ?_ | (simp (maxSteps := 2000000) only [go_sem, Nat.reduceAdd, Nat.reduceMul, Nat.reduceBEq, Nat.reduceLeDiff, Nat.reduceLT, Nat.reduceEqDiff]; try rfl) | refine T_seq ?_ | (refine And.intro ?_ ?_; focus (intros; simp_all only [Bool.or_eq_false_iff, Bool.or_eq_true, Bool.and_eq_true, and_self, true_and, and_true]; done))
  refine T_cond rfl (fun hd => ?_) (fun hd => ?_)
  · have hlt := lt_of_dec hd
    have hle : (a.l.take k).length = k := by rw [List.length_take]; omega
    repeat' first | refine T_seq_region rfl ?_ | refine T_region rfl ?_ | refine T_ret ?_ | refine T_block ?_ | refine T_skip ?_ | refine T_exit ?_ | (simp (maxSteps := 2000000) only [go_sem, Nat.reduceAdd, Nat.reduceMul, Nat.reduceBEq, Nat.reduceLeDiff, Nat.reduceLT, Nat.reduceEqDiff, at_Int ha hlt, ha.some hlt, hlt, Int.toNat_natCast]; try rfl) | refine T_seq ?_ | (refine And.intro ?_ ?_; focus (intros; simp_all only [Bool.or_eq_false_iff, Bool.or_eq_true, Bool.and_eq_true, and_self, true_and, and_true]; done))
    refine ⟨?_, ?_⟩
    · rw [conv_len (by omega) rfl]; exact Nat.le_trans (Nat.le_of_eq (by simp only [Nat.add_mul])) (Nat.mul_le_mul_right 1 (show k + 1 ≤ a.l.length from hlt))
    repeat' first | refine T_seq_region rfl ?_ | refine T_region rfl ?_ | refine T_ret ?_ | refine T_block ?_ | refine T_skip ?_ | refine T_exit ?_ | (simp (maxSteps := 2000000) only [go_sem, Nat.reduceAdd, Nat.reduceMul, Nat.reduceBEq, Nat.reduceLeDiff, Nat.reduceLT, Nat.reduceEqDiff]; try rfl) | refine T_seq ?_ | (refine And.intro ?_ ?_; focus (intros; simp_all only [Bool.or_eq_false_iff, Bool.or_eq_true, Bool.and_eq_true, and_self, true_and, and_true]; done))
    exact ⟨k + 1, hlt, by omega, svInt (wrapS hlt (by omega)), row_ext (by rw [List.take_succ_eq_append_getElem hlt]; exact conv_next hle hlt rfl)⟩
  · have hge := ge_of_dec hd
    refine T_exit ?_
    simp (maxSteps := 2000000) only [go_sem, Nat.reduceAdd, Nat.reduceMul, Nat.reduceBEq, Nat.reduceLeDiff, Nat.reduceLT, Nat.reduceEqDiff]
    refine T_pubM 0 a.l rfl rfl rfl (by rw [List.take_of_length_le hge]; exact conv_all (Nat.le_refl _)) (by decide) (fun x hx => by obtain ⟨i, hi, rfl⟩ := List.getElem_of_mem hx; exact ha.el hi) h (Hp.le_refl _) (Mines.flat (fun _ => rfl) (fun _ => trivial)) fun s h' e1 e2 e3 e4 => ?_
    repeat' first | refine T_seq_region rfl ?_ | refine T_region rfl ?_ | refine T_ret ?_ | refine T_block ?_ | refine T_skip ?_ | refine T_exit ?_ | (simp (maxSteps := 2000000) only [go_sem, Nat.reduceAdd, Nat.reduceMul, Nat.reduceBEq, Nat.reduceLeDiff, Nat.reduceLT, Nat.reduceEqDiff]; try rfl) | refine T_seq ?_ | (refine And.intro ?_ ?_; focus (intros; simp_all only [Bool.or_eq_false_iff, Bool.or_eq_true, Bool.and_eq_true, and_self, true_and, and_true]; done))
    exact ⟨s, rfl, by rw [con_sl, con_sl, e1], e2, e4⟩

theorem toPart_fn (c : DPart) (h : Hp) : Ct Try.prog 166 [.agg #[.int .i64 c.amp, .int .i64 c.period, .int .i64 c.phase]] h fun v h' => v = .agg #[.int .i64 c.amp, .int .i64 c.period, .int .i64 c.phase] ∧ h' = h := by
  refine Ct_of_T (fun A W => by simp) Try.func166 rfl rfl (by simp) fun W0 => ?_
  repeat' first | refine T_seq_region rfl ?_ | refine T_region rfl ?_ | refine T_ret ?_ | refine T_block ?_ | refine T_skip ?_ | refine T_exit ?_ | (simp (maxSteps := 2000000) only [go_sem, Nat.reduceAdd, Nat.reduceMul, Nat.reduceBEq, Nat.reduceLeDiff, Nat.reduceLT, Nat.reduceEqDiff]; try rfl) | refine T_seq ?_ | (refine And.intro ?_ ?_; focus (intros; simp_all only [Bool.or_eq_false_iff, Bool.or_eq_true, Bool.and_eq_true, and_self, true_and, and_true]; done))

theorem toPassage_fn (c : DPassage) (h : Hp) : Ct Try.prog 86 [.agg #[.int .i64 c.ship, .int .i64 c.seg, .bool c.toward, .int .i64 c.start, .int .i64 c.fin]] h fun v h' => v = .agg #[.int .i64 c.ship, .int .i64 c.seg, .bool c.toward, .int .i64 c.start, .int .i64 c.fin] ∧ h' = h := by
  refine Ct_of_T (fun A W => by simp) Try.func86 rfl rfl (by simp) fun W0 => ?_
  repeat' first | refine T_seq_region rfl ?_ | refine T_region rfl ?_ | refine T_ret ?_ | refine T_block ?_ | refine T_skip ?_ | refine T_exit ?_ | (simp (maxSteps := 2000000) only [go_sem, Nat.reduceAdd, Nat.reduceMul, Nat.reduceBEq, Nat.reduceLeDiff, Nat.reduceLT, Nat.reduceEqDiff]; try rfl) | refine T_seq ?_ | (refine And.intro ?_ ?_; focus (intros; simp_all only [Bool.or_eq_false_iff, Bool.or_eq_true, Bool.and_eq_true, and_self, true_and, and_true]; done))

theorem toPoint_fn (c : DPoint) (h : Hp) : Ct Try.prog 125 [.agg #[.string c.name, .bool c.wait]] h fun v h' => v = .agg #[.string c.name, .bool c.wait] ∧ h' = h := by
  refine Ct_of_T (fun A W => by simp) Try.func125 rfl rfl (by simp) fun W0 => ?_
  repeat' first | refine T_seq_region rfl ?_ | refine T_region rfl ?_ | refine T_ret ?_ | refine T_block ?_ | refine T_skip ?_ | refine T_exit ?_ | (simp (maxSteps := 2000000) only [go_sem, Nat.reduceAdd, Nat.reduceMul, Nat.reduceBEq, Nat.reduceLeDiff, Nat.reduceLT, Nat.reduceEqDiff]; try rfl) | refine T_seq ?_ | (refine And.intro ?_ ?_; focus (intros; simp_all only [Bool.or_eq_false_iff, Bool.or_eq_true, Bool.and_eq_true, and_self, true_and, and_true]; done))

theorem toRegime_fn (c : DRegime) (h : Hp) : Ct Try.prog 107 [.agg #[.int .i64 c.gap, .bool c.noMeet]] h fun v h' => v = .agg #[.int .i64 c.gap, .bool c.noMeet] ∧ h' = h := by
  refine Ct_of_T (fun A W => by simp) Try.func107 rfl rfl (by simp) fun W0 => ?_
  repeat' first | refine T_seq_region rfl ?_ | refine T_region rfl ?_ | refine T_ret ?_ | refine T_block ?_ | refine T_skip ?_ | refine T_exit ?_ | (simp (maxSteps := 2000000) only [go_sem, Nat.reduceAdd, Nat.reduceMul, Nat.reduceBEq, Nat.reduceLeDiff, Nat.reduceLT, Nat.reduceEqDiff]; try rfl) | refine T_seq ?_ | (refine And.intro ?_ ?_; focus (intros; simp_all only [Bool.or_eq_false_iff, Bool.or_eq_true, Bool.and_eq_true, and_self, true_and, and_true]; done))

theorem toSegment_fn (c : DSegment) (h : Hp) : Ct Try.prog 126 [.agg #[.int .i64 c.a, .int .i64 c.b, .int .i64 c.depth, .int .i64 c.minutes, .bool c.meet]] h fun v h' => v = .agg #[.int .i64 c.a, .int .i64 c.b, .int .i64 c.depth, .int .i64 c.minutes, .bool c.meet] ∧ h' = h := by
  refine Ct_of_T (fun A W => by simp) Try.func126 rfl rfl (by simp) fun W0 => ?_
  repeat' first | refine T_seq_region rfl ?_ | refine T_region rfl ?_ | refine T_ret ?_ | refine T_block ?_ | refine T_skip ?_ | refine T_exit ?_ | (simp (maxSteps := 2000000) only [go_sem, Nat.reduceAdd, Nat.reduceMul, Nat.reduceBEq, Nat.reduceLeDiff, Nat.reduceLT, Nat.reduceEqDiff]; try rfl) | refine T_seq ?_ | (refine And.intro ?_ ?_; focus (intros; simp_all only [Bool.or_eq_false_iff, Bool.or_eq_true, Bool.and_eq_true, and_self, true_and, and_true]; done))

theorem toShip_fn (c : DShip) (h : Hp) : Ct Try.prog 85 [.agg #[.string c.name, .int .i64 c.length, .int .i64 c.draught, .int .i64 c.line, .int .i64 c.tugs, .bool c.slow]] h fun v h' => v = .agg #[.string c.name, .int .i64 c.length, .int .i64 c.draught, .int .i64 c.line, .int .i64 c.tugs, .bool c.slow] ∧ h' = h := by
  refine Ct_of_T (fun A W => by simp) Try.func85 rfl rfl (by simp) fun W0 => ?_
  repeat' first | refine T_seq_region rfl ?_ | refine T_region rfl ?_ | refine T_ret ?_ | refine T_block ?_ | refine T_skip ?_ | refine T_exit ?_ | (simp (maxSteps := 2000000) only [go_sem, Nat.reduceAdd, Nat.reduceMul, Nat.reduceBEq, Nat.reduceLeDiff, Nat.reduceLT, Nat.reduceEqDiff]; try rfl) | refine T_seq ?_ | (refine And.intro ?_ ?_; focus (intros; simp_all only [Bool.or_eq_false_iff, Bool.or_eq_true, Bool.and_eq_true, and_self, true_and, and_true]; done))

theorem toSurge_fn (c : DSurge) (h : Hp) : Ct Try.prog 162 [.agg #[.int .i64 c.src, .int .i64 c.low, .int .i64 c.high]] h fun v h' => v = .agg #[.int .i64 c.src, .int .i64 c.low, .int .i64 c.high] ∧ h' = h := by
  refine Ct_of_T (fun A W => by simp) Try.func162 rfl rfl (by simp) fun W0 => ?_
  repeat' first | refine T_seq_region rfl ?_ | refine T_region rfl ?_ | refine T_ret ?_ | refine T_block ?_ | refine T_skip ?_ | refine T_exit ?_ | (simp (maxSteps := 2000000) only [go_sem, Nat.reduceAdd, Nat.reduceMul, Nat.reduceBEq, Nat.reduceLeDiff, Nat.reduceLT, Nat.reduceEqDiff]; try rfl) | refine T_seq ?_ | (refine And.intro ?_ ?_; focus (intros; simp_all only [Bool.or_eq_false_iff, Bool.or_eq_true, Bool.and_eq_true, and_self, true_and, and_true]; done))

theorem toCallS_fn (a : Sl DCall) (h : Hp) (ha : a.Ok h) (hb : Blk.blk a ≤ 1048576) : Ct Try.prog 60 [a.val] h fun v h' => ∃ s : Sl DCall, v = s.val ∧ Con.con s = Con.con a ∧ s.Ok h' ∧ Mine h h' s := by
  have hl : a.l.length ≤ 1048576 := Nat.le_trans (Nat.le_add_right _ _) hb
  refine Ct_of_T (fun A W => by simp) Try.func60 rfl rfl (by simp) fun W0 => ?_
  repeat' first | refine T_seq_region rfl ?_ | refine T_region rfl ?_ | refine T_ret ?_ | refine T_block ?_ | refine T_skip ?_ | refine T_exit ?_ | (simp (maxSteps := 2000000) only [go_sem, Nat.reduceAdd, Nat.reduceMul, Nat.reduceBEq, Nat.reduceLeDiff, Nat.reduceLT, Nat.reduceEqDiff]; try rfl) | refine T_seq ?_ | (refine And.intro ?_ ?_; focus (intros; simp_all only [Bool.or_eq_false_iff, Bool.or_eq_true, Bool.and_eq_true, and_self, true_and, and_true]; done))
  refine ⟨by simp only [maxLen]; omega, by omega, ?_⟩
  repeat' first | refine T_seq_region rfl ?_ | refine T_region rfl ?_ | refine T_ret ?_ | refine T_block ?_ | refine T_skip ?_ | refine T_exit ?_ | (simp (maxSteps := 2000000) only [go_sem, Nat.reduceAdd, Nat.reduceMul, Nat.reduceBEq, Nat.reduceLeDiff, Nat.reduceLT, Nat.reduceEqDiff]; try rfl) | refine T_seq ?_ | (refine And.intro ?_ ?_; focus (intros; simp_all only [Bool.or_eq_false_iff, Bool.or_eq_true, Bool.and_eq_true, and_self, true_and, and_true]; done))
  refine T_loop (ι := Nat) (fun k => ⟨[(0, true, .c (.v a.val)), (3, true, .c (.s 0)), (4, true, .c (.v (.int .i64 k)))], [(0, .row 110 5 a.l.length (conv (a.l.take k) a.l.length [.int .i64 0, .int .i64 0, .int .i64 0, .int .i64 0, .int .i64 0]))], h, 1⟩) (fun k => k ≤ a.l.length) (fun k => a.l.length - k) 0 (Nat.zero_le _) ?_ ?_
  · simp (maxSteps := 2000000) only [go_sem, Nat.reduceAdd, Nat.reduceMul, Nat.reduceBEq, Nat.reduceLeDiff, Nat.reduceLT, Nat.reduceEqDiff]
    exact ⟨rfl, row_ext (madeC (α := DCall) (z := #[.int .i64 0, .int .i64 0, .int .i64 0, .int .i64 0, .int .i64 0]) (by decide))⟩
  intro k hk
  repeat' first | refine T_seq_region rfl ?_ | refine T_region rfl ?_ | refine T_ret ?_ | refine T_block ?_ | refine T_skip ?_ | refine T_exit ?_ | (simp (maxSteps := 2000000) only [go_sem, Nat.reduceAdd, Nat.reduceMul, Nat.reduceBEq, Nat.reduceLeDiff, Nat.reduceLT, Nat.reduceEqDiff]; try rfl) | refine T_seq ?_ | (refine And.intro ?_ ?_; focus (intros; simp_all only [Bool.or_eq_false_iff, Bool.or_eq_true, Bool.and_eq_true, and_self, true_and, and_true]; done))
  refine T_cond rfl (fun hd => ?_) (fun hd => ?_)
  · have hlt := lt_of_dec hd
    have hle : (a.l.take k).length = k := by rw [List.length_take]; omega
    repeat' first | refine T_seq_region rfl ?_ | refine T_region rfl ?_ | refine T_ret ?_ | refine T_block ?_ | refine T_skip ?_ | refine T_exit ?_ | refine vfn_val (fun _ => toCall_fn _ _) ?_ | (simp (maxSteps := 2000000) only [go_sem, Nat.reduceAdd, Nat.reduceMul, Nat.reduceBEq, Nat.reduceLeDiff, Nat.reduceLT, Nat.reduceEqDiff, at_DCall ha hlt, ha.some hlt, hlt, Int.toNat_natCast]; try rfl) | refine T_seq ?_ | (refine And.intro ?_ ?_; focus (intros; simp_all only [Bool.or_eq_false_iff, Bool.or_eq_true, Bool.and_eq_true, and_self, true_and, and_true]; done))
    refine ⟨?_, ?_⟩
    · rw [conv_len (by omega) rfl]; exact Nat.le_trans (Nat.le_of_eq (by simp only [Nat.add_mul])) (Nat.mul_le_mul_right 5 (show k + 1 ≤ a.l.length from hlt))
    repeat' first | refine T_seq_region rfl ?_ | refine T_region rfl ?_ | refine T_ret ?_ | refine T_block ?_ | refine T_skip ?_ | refine T_exit ?_ | (simp (maxSteps := 2000000) only [go_sem, Nat.reduceAdd, Nat.reduceMul, Nat.reduceBEq, Nat.reduceLeDiff, Nat.reduceLT, Nat.reduceEqDiff]; try rfl) | refine T_seq ?_ | (refine And.intro ?_ ?_; focus (intros; simp_all only [Bool.or_eq_false_iff, Bool.or_eq_true, Bool.and_eq_true, and_self, true_and, and_true]; done))
    exact ⟨k + 1, hlt, by omega, svInt (wrapS hlt (by omega)), row_ext (by rw [List.take_succ_eq_append_getElem hlt]; exact conv_next hle hlt rfl)⟩
  · have hge := ge_of_dec hd
    refine T_exit ?_
    simp (maxSteps := 2000000) only [go_sem, Nat.reduceAdd, Nat.reduceMul, Nat.reduceBEq, Nat.reduceLeDiff, Nat.reduceLT, Nat.reduceEqDiff]
    refine T_pubM 0 a.l rfl rfl rfl (by rw [List.take_of_length_le hge]; exact conv_all (Nat.le_refl _)) (by decide) (fun x hx => by obtain ⟨i, hi, rfl⟩ := List.getElem_of_mem hx; exact ha.el hi) h (Hp.le_refl _) (Mines.flat (fun _ => rfl) (fun _ => trivial)) fun s h' e1 e2 e3 e4 => ?_
    repeat' first | refine T_seq_region rfl ?_ | refine T_region rfl ?_ | refine T_ret ?_ | refine T_block ?_ | refine T_skip ?_ | refine T_exit ?_ | (simp (maxSteps := 2000000) only [go_sem, Nat.reduceAdd, Nat.reduceMul, Nat.reduceBEq, Nat.reduceLeDiff, Nat.reduceLT, Nat.reduceEqDiff]; try rfl) | refine T_seq ?_ | (refine And.intro ?_ ?_; focus (intros; simp_all only [Bool.or_eq_false_iff, Bool.or_eq_true, Bool.and_eq_true, and_self, true_and, and_true]; done))
    exact ⟨s, rfl, by rw [con_sl, con_sl, e1], e2, e4⟩

theorem toCrew_fn (c : DCrew) (h : Hp) (hc : Enc.ok h c) (hb : Blk.blk c ≤ 1048576) : Ct Try.prog 108 [.agg #[.int .i64 c.tugs, .int .i64 c.pilots, .int .i64 c.rest, c.moves.val]] h fun v h' => ∃ d : DCrew, v = .agg #[.int .i64 d.tugs, .int .i64 d.pilots, .int .i64 d.rest, d.moves.val] ∧ Con.con d = Con.con c ∧ Enc.ok h' d ∧ Mine h h' d := by
  rw [blk_DCrew] at hb
  obtain ⟨o_tugs, o_pilots, o_rest, o_moves⟩ := hc
  refine Ct_of_T (fun A W => by simp) Try.func108 rfl rfl (by simp) fun W0 => ?_
  repeat' first | refine T_seq_region rfl ?_ | refine T_region rfl ?_ | refine T_ret ?_ | refine T_block ?_ | refine T_skip ?_ | refine T_exit ?_ | (simp (maxSteps := 2000000) only [go_sem, Nat.reduceAdd, Nat.reduceMul, Nat.reduceBEq, Nat.reduceLeDiff, Nat.reduceLT, Nat.reduceEqDiff]; try rfl) | refine T_seq ?_ | (refine And.intro ?_ ?_; focus (intros; simp_all only [Bool.or_eq_false_iff, Bool.or_eq_true, Bool.and_eq_true, and_self, true_and, and_true]; done))
  refine vfn_at (toIntS_fn _ _ o_moves (by omega)) rfl ?_
  rintro v h_0 le_0 ⟨s_0, rfl, e_0, ok_0, m_0⟩
  repeat' first | refine T_seq_region rfl ?_ | refine T_region rfl ?_ | refine T_ret ?_ | refine T_block ?_ | refine T_skip ?_ | refine T_exit ?_ | (simp (maxSteps := 2000000) only [go_sem, Nat.reduceAdd, Nat.reduceMul, Nat.reduceBEq, Nat.reduceLeDiff, Nat.reduceLT, Nat.reduceEqDiff]; try rfl) | refine T_seq ?_ | (refine And.intro ?_ ?_; focus (intros; simp_all only [Bool.or_eq_false_iff, Bool.or_eq_true, Bool.and_eq_true, and_self, true_and, and_true]; done))
  exact ⟨⟨c.tugs, c.pilots, c.rest, s_0⟩, rfl, by rw [con_DCrew, con_DCrew]; simp only [e_0], ⟨o_tugs, o_pilots, o_rest, ok_0⟩, News.mine (m_0.1) m_0.news⟩

theorem toPartS_fn (a : Sl DPart) (h : Hp) (ha : a.Ok h) (hb : Blk.blk a ≤ 1048576) : Ct Try.prog 161 [a.val] h fun v h' => ∃ s : Sl DPart, v = s.val ∧ Con.con s = Con.con a ∧ s.Ok h' ∧ Mine h h' s := by
  have hl : a.l.length ≤ 1048576 := Nat.le_trans (Nat.le_add_right _ _) hb
  refine Ct_of_T (fun A W => by simp) Try.func161 rfl rfl (by simp) fun W0 => ?_
  repeat' first | refine T_seq_region rfl ?_ | refine T_region rfl ?_ | refine T_ret ?_ | refine T_block ?_ | refine T_skip ?_ | refine T_exit ?_ | (simp (maxSteps := 2000000) only [go_sem, Nat.reduceAdd, Nat.reduceMul, Nat.reduceBEq, Nat.reduceLeDiff, Nat.reduceLT, Nat.reduceEqDiff]; try rfl) | refine T_seq ?_ | (refine And.intro ?_ ?_; focus (intros; simp_all only [Bool.or_eq_false_iff, Bool.or_eq_true, Bool.and_eq_true, and_self, true_and, and_true]; done))
  refine ⟨by simp only [maxLen]; omega, by omega, ?_⟩
  repeat' first | refine T_seq_region rfl ?_ | refine T_region rfl ?_ | refine T_ret ?_ | refine T_block ?_ | refine T_skip ?_ | refine T_exit ?_ | (simp (maxSteps := 2000000) only [go_sem, Nat.reduceAdd, Nat.reduceMul, Nat.reduceBEq, Nat.reduceLeDiff, Nat.reduceLT, Nat.reduceEqDiff]; try rfl) | refine T_seq ?_ | (refine And.intro ?_ ?_; focus (intros; simp_all only [Bool.or_eq_false_iff, Bool.or_eq_true, Bool.and_eq_true, and_self, true_and, and_true]; done))
  refine T_loop (ι := Nat) (fun k => ⟨[(0, true, .c (.v a.val)), (3, true, .c (.s 0)), (4, true, .c (.v (.int .i64 k)))], [(0, .row 220 3 a.l.length (conv (a.l.take k) a.l.length [.int .i64 0, .int .i64 0, .int .i64 0]))], h, 1⟩) (fun k => k ≤ a.l.length) (fun k => a.l.length - k) 0 (Nat.zero_le _) ?_ ?_
  · simp (maxSteps := 2000000) only [go_sem, Nat.reduceAdd, Nat.reduceMul, Nat.reduceBEq, Nat.reduceLeDiff, Nat.reduceLT, Nat.reduceEqDiff]
    exact ⟨rfl, row_ext (madeC (α := DPart) (z := #[.int .i64 0, .int .i64 0, .int .i64 0]) (by decide))⟩
  intro k hk
  repeat' first | refine T_seq_region rfl ?_ | refine T_region rfl ?_ | refine T_ret ?_ | refine T_block ?_ | refine T_skip ?_ | refine T_exit ?_ | (simp (maxSteps := 2000000) only [go_sem, Nat.reduceAdd, Nat.reduceMul, Nat.reduceBEq, Nat.reduceLeDiff, Nat.reduceLT, Nat.reduceEqDiff]; try rfl) | refine T_seq ?_ | (refine And.intro ?_ ?_; focus (intros; simp_all only [Bool.or_eq_false_iff, Bool.or_eq_true, Bool.and_eq_true, and_self, true_and, and_true]; done))
  refine T_cond rfl (fun hd => ?_) (fun hd => ?_)
  · have hlt := lt_of_dec hd
    have hle : (a.l.take k).length = k := by rw [List.length_take]; omega
    repeat' first | refine T_seq_region rfl ?_ | refine T_region rfl ?_ | refine T_ret ?_ | refine T_block ?_ | refine T_skip ?_ | refine T_exit ?_ | refine vfn_val (fun _ => toPart_fn _ _) ?_ | (simp (maxSteps := 2000000) only [go_sem, Nat.reduceAdd, Nat.reduceMul, Nat.reduceBEq, Nat.reduceLeDiff, Nat.reduceLT, Nat.reduceEqDiff, at_DPart ha hlt, ha.some hlt, hlt, Int.toNat_natCast]; try rfl) | refine T_seq ?_ | (refine And.intro ?_ ?_; focus (intros; simp_all only [Bool.or_eq_false_iff, Bool.or_eq_true, Bool.and_eq_true, and_self, true_and, and_true]; done))
    refine ⟨?_, ?_⟩
    · rw [conv_len (by omega) rfl]; exact Nat.le_trans (Nat.le_of_eq (by simp only [Nat.add_mul])) (Nat.mul_le_mul_right 3 (show k + 1 ≤ a.l.length from hlt))
    repeat' first | refine T_seq_region rfl ?_ | refine T_region rfl ?_ | refine T_ret ?_ | refine T_block ?_ | refine T_skip ?_ | refine T_exit ?_ | (simp (maxSteps := 2000000) only [go_sem, Nat.reduceAdd, Nat.reduceMul, Nat.reduceBEq, Nat.reduceLeDiff, Nat.reduceLT, Nat.reduceEqDiff]; try rfl) | refine T_seq ?_ | (refine And.intro ?_ ?_; focus (intros; simp_all only [Bool.or_eq_false_iff, Bool.or_eq_true, Bool.and_eq_true, and_self, true_and, and_true]; done))
    exact ⟨k + 1, hlt, by omega, svInt (wrapS hlt (by omega)), row_ext (by rw [List.take_succ_eq_append_getElem hlt]; exact conv_next hle hlt rfl)⟩
  · have hge := ge_of_dec hd
    refine T_exit ?_
    simp (maxSteps := 2000000) only [go_sem, Nat.reduceAdd, Nat.reduceMul, Nat.reduceBEq, Nat.reduceLeDiff, Nat.reduceLT, Nat.reduceEqDiff]
    refine T_pubM 0 a.l rfl rfl rfl (by rw [List.take_of_length_le hge]; exact conv_all (Nat.le_refl _)) (by decide) (fun x hx => by obtain ⟨i, hi, rfl⟩ := List.getElem_of_mem hx; exact ha.el hi) h (Hp.le_refl _) (Mines.flat (fun _ => rfl) (fun _ => trivial)) fun s h' e1 e2 e3 e4 => ?_
    repeat' first | refine T_seq_region rfl ?_ | refine T_region rfl ?_ | refine T_ret ?_ | refine T_block ?_ | refine T_skip ?_ | refine T_exit ?_ | (simp (maxSteps := 2000000) only [go_sem, Nat.reduceAdd, Nat.reduceMul, Nat.reduceBEq, Nat.reduceLeDiff, Nat.reduceLT, Nat.reduceEqDiff]; try rfl) | refine T_seq ?_ | (refine And.intro ?_ ?_; focus (intros; simp_all only [Bool.or_eq_false_iff, Bool.or_eq_true, Bool.and_eq_true, and_self, true_and, and_true]; done))
    exact ⟨s, rfl, by rw [con_sl, con_sl, e1], e2, e4⟩

theorem toPassageS_fn (a : Sl DPassage) (h : Hp) (ha : a.Ok h) (hb : Blk.blk a ≤ 1048576) : Ct Try.prog 36 [a.val] h fun v h' => ∃ s : Sl DPassage, v = s.val ∧ Con.con s = Con.con a ∧ s.Ok h' ∧ Mine h h' s := by
  have hl : a.l.length ≤ 1048576 := Nat.le_trans (Nat.le_add_right _ _) hb
  refine Ct_of_T (fun A W => by simp) Try.func36 rfl rfl (by simp) fun W0 => ?_
  repeat' first | refine T_seq_region rfl ?_ | refine T_region rfl ?_ | refine T_ret ?_ | refine T_block ?_ | refine T_skip ?_ | refine T_exit ?_ | (simp (maxSteps := 2000000) only [go_sem, Nat.reduceAdd, Nat.reduceMul, Nat.reduceBEq, Nat.reduceLeDiff, Nat.reduceLT, Nat.reduceEqDiff]; try rfl) | refine T_seq ?_ | (refine And.intro ?_ ?_; focus (intros; simp_all only [Bool.or_eq_false_iff, Bool.or_eq_true, Bool.and_eq_true, and_self, true_and, and_true]; done))
  refine ⟨by simp only [maxLen]; omega, by omega, ?_⟩
  repeat' first | refine T_seq_region rfl ?_ | refine T_region rfl ?_ | refine T_ret ?_ | refine T_block ?_ | refine T_skip ?_ | refine T_exit ?_ | (simp (maxSteps := 2000000) only [go_sem, Nat.reduceAdd, Nat.reduceMul, Nat.reduceBEq, Nat.reduceLeDiff, Nat.reduceLT, Nat.reduceEqDiff]; try rfl) | refine T_seq ?_ | (refine And.intro ?_ ?_; focus (intros; simp_all only [Bool.or_eq_false_iff, Bool.or_eq_true, Bool.and_eq_true, and_self, true_and, and_true]; done))
  refine T_loop (ι := Nat) (fun k => ⟨[(0, true, .c (.v a.val)), (3, true, .c (.s 0)), (4, true, .c (.v (.int .i64 k)))], [(0, .row 143 5 a.l.length (conv (a.l.take k) a.l.length [.int .i64 0, .int .i64 0, .bool false, .int .i64 0, .int .i64 0]))], h, 1⟩) (fun k => k ≤ a.l.length) (fun k => a.l.length - k) 0 (Nat.zero_le _) ?_ ?_
  · simp (maxSteps := 2000000) only [go_sem, Nat.reduceAdd, Nat.reduceMul, Nat.reduceBEq, Nat.reduceLeDiff, Nat.reduceLT, Nat.reduceEqDiff]
    exact ⟨rfl, row_ext (madeC (α := DPassage) (z := #[.int .i64 0, .int .i64 0, .bool false, .int .i64 0, .int .i64 0]) (by decide))⟩
  intro k hk
  repeat' first | refine T_seq_region rfl ?_ | refine T_region rfl ?_ | refine T_ret ?_ | refine T_block ?_ | refine T_skip ?_ | refine T_exit ?_ | (simp (maxSteps := 2000000) only [go_sem, Nat.reduceAdd, Nat.reduceMul, Nat.reduceBEq, Nat.reduceLeDiff, Nat.reduceLT, Nat.reduceEqDiff]; try rfl) | refine T_seq ?_ | (refine And.intro ?_ ?_; focus (intros; simp_all only [Bool.or_eq_false_iff, Bool.or_eq_true, Bool.and_eq_true, and_self, true_and, and_true]; done))
  refine T_cond rfl (fun hd => ?_) (fun hd => ?_)
  · have hlt := lt_of_dec hd
    have hle : (a.l.take k).length = k := by rw [List.length_take]; omega
    repeat' first | refine T_seq_region rfl ?_ | refine T_region rfl ?_ | refine T_ret ?_ | refine T_block ?_ | refine T_skip ?_ | refine T_exit ?_ | refine vfn_val (fun _ => toPassage_fn _ _) ?_ | (simp (maxSteps := 2000000) only [go_sem, Nat.reduceAdd, Nat.reduceMul, Nat.reduceBEq, Nat.reduceLeDiff, Nat.reduceLT, Nat.reduceEqDiff, at_DPassage ha hlt, ha.some hlt, hlt, Int.toNat_natCast]; try rfl) | refine T_seq ?_ | (refine And.intro ?_ ?_; focus (intros; simp_all only [Bool.or_eq_false_iff, Bool.or_eq_true, Bool.and_eq_true, and_self, true_and, and_true]; done))
    refine ⟨?_, ?_⟩
    · rw [conv_len (by omega) rfl]; exact Nat.le_trans (Nat.le_of_eq (by simp only [Nat.add_mul])) (Nat.mul_le_mul_right 5 (show k + 1 ≤ a.l.length from hlt))
    repeat' first | refine T_seq_region rfl ?_ | refine T_region rfl ?_ | refine T_ret ?_ | refine T_block ?_ | refine T_skip ?_ | refine T_exit ?_ | (simp (maxSteps := 2000000) only [go_sem, Nat.reduceAdd, Nat.reduceMul, Nat.reduceBEq, Nat.reduceLeDiff, Nat.reduceLT, Nat.reduceEqDiff]; try rfl) | refine T_seq ?_ | (refine And.intro ?_ ?_; focus (intros; simp_all only [Bool.or_eq_false_iff, Bool.or_eq_true, Bool.and_eq_true, and_self, true_and, and_true]; done))
    exact ⟨k + 1, hlt, by omega, svInt (wrapS hlt (by omega)), row_ext (by rw [List.take_succ_eq_append_getElem hlt]; exact conv_next hle hlt rfl)⟩
  · have hge := ge_of_dec hd
    refine T_exit ?_
    simp (maxSteps := 2000000) only [go_sem, Nat.reduceAdd, Nat.reduceMul, Nat.reduceBEq, Nat.reduceLeDiff, Nat.reduceLT, Nat.reduceEqDiff]
    refine T_pubM 0 a.l rfl rfl rfl (by rw [List.take_of_length_le hge]; exact conv_all (Nat.le_refl _)) (by decide) (fun x hx => by obtain ⟨i, hi, rfl⟩ := List.getElem_of_mem hx; exact ha.el hi) h (Hp.le_refl _) (Mines.flat (fun _ => rfl) (fun _ => trivial)) fun s h' e1 e2 e3 e4 => ?_
    repeat' first | refine T_seq_region rfl ?_ | refine T_region rfl ?_ | refine T_ret ?_ | refine T_block ?_ | refine T_skip ?_ | refine T_exit ?_ | (simp (maxSteps := 2000000) only [go_sem, Nat.reduceAdd, Nat.reduceMul, Nat.reduceBEq, Nat.reduceLeDiff, Nat.reduceLT, Nat.reduceEqDiff]; try rfl) | refine T_seq ?_ | (refine And.intro ?_ ?_; focus (intros; simp_all only [Bool.or_eq_false_iff, Bool.or_eq_true, Bool.and_eq_true, and_self, true_and, and_true]; done))
    exact ⟨s, rfl, by rw [con_sl, con_sl, e1], e2, e4⟩

theorem toPointS_fn (a : Sl DPoint) (h : Hp) (ha : a.Ok h) (hb : Blk.blk a ≤ 1048576) : Ct Try.prog 83 [a.val] h fun v h' => ∃ s : Sl DPoint, v = s.val ∧ Con.con s = Con.con a ∧ s.Ok h' ∧ Mine h h' s := by
  have hl : a.l.length ≤ 1048576 := Nat.le_trans (Nat.le_add_right _ _) hb
  refine Ct_of_T (fun A W => by simp) Try.func83 rfl rfl (by simp) fun W0 => ?_
  repeat' first | refine T_seq_region rfl ?_ | refine T_region rfl ?_ | refine T_ret ?_ | refine T_block ?_ | refine T_skip ?_ | refine T_exit ?_ | (simp (maxSteps := 2000000) only [go_sem, Nat.reduceAdd, Nat.reduceMul, Nat.reduceBEq, Nat.reduceLeDiff, Nat.reduceLT, Nat.reduceEqDiff]; try rfl) | refine T_seq ?_ | (refine And.intro ?_ ?_; focus (intros; simp_all only [Bool.or_eq_false_iff, Bool.or_eq_true, Bool.and_eq_true, and_self, true_and, and_true]; done))
  refine ⟨by simp only [maxLen]; omega, by omega, ?_⟩
  repeat' first | refine T_seq_region rfl ?_ | refine T_region rfl ?_ | refine T_ret ?_ | refine T_block ?_ | refine T_skip ?_ | refine T_exit ?_ | (simp (maxSteps := 2000000) only [go_sem, Nat.reduceAdd, Nat.reduceMul, Nat.reduceBEq, Nat.reduceLeDiff, Nat.reduceLT, Nat.reduceEqDiff]; try rfl) | refine T_seq ?_ | (refine And.intro ?_ ?_; focus (intros; simp_all only [Bool.or_eq_false_iff, Bool.or_eq_true, Bool.and_eq_true, and_self, true_and, and_true]; done))
  refine T_loop (ι := Nat) (fun k => ⟨[(0, true, .c (.v a.val)), (3, true, .c (.s 0)), (4, true, .c (.v (.int .i64 k)))], [(0, .row 188 2 a.l.length (conv (a.l.take k) a.l.length [.string ByteArray.empty, .bool false]))], h, 1⟩) (fun k => k ≤ a.l.length) (fun k => a.l.length - k) 0 (Nat.zero_le _) ?_ ?_
  · simp (maxSteps := 2000000) only [go_sem, Nat.reduceAdd, Nat.reduceMul, Nat.reduceBEq, Nat.reduceLeDiff, Nat.reduceLT, Nat.reduceEqDiff]
    exact ⟨rfl, row_ext (madeC (α := DPoint) (z := #[.string ByteArray.empty, .bool false]) (by decide))⟩
  intro k hk
  repeat' first | refine T_seq_region rfl ?_ | refine T_region rfl ?_ | refine T_ret ?_ | refine T_block ?_ | refine T_skip ?_ | refine T_exit ?_ | (simp (maxSteps := 2000000) only [go_sem, Nat.reduceAdd, Nat.reduceMul, Nat.reduceBEq, Nat.reduceLeDiff, Nat.reduceLT, Nat.reduceEqDiff]; try rfl) | refine T_seq ?_ | (refine And.intro ?_ ?_; focus (intros; simp_all only [Bool.or_eq_false_iff, Bool.or_eq_true, Bool.and_eq_true, and_self, true_and, and_true]; done))
  refine T_cond rfl (fun hd => ?_) (fun hd => ?_)
  · have hlt := lt_of_dec hd
    have hle : (a.l.take k).length = k := by rw [List.length_take]; omega
    repeat' first | refine T_seq_region rfl ?_ | refine T_region rfl ?_ | refine T_ret ?_ | refine T_block ?_ | refine T_skip ?_ | refine T_exit ?_ | refine vfn_val (fun _ => toPoint_fn _ _) ?_ | (simp (maxSteps := 2000000) only [go_sem, Nat.reduceAdd, Nat.reduceMul, Nat.reduceBEq, Nat.reduceLeDiff, Nat.reduceLT, Nat.reduceEqDiff, at_DPoint ha hlt, ha.some hlt, hlt, Int.toNat_natCast]; try rfl) | refine T_seq ?_ | (refine And.intro ?_ ?_; focus (intros; simp_all only [Bool.or_eq_false_iff, Bool.or_eq_true, Bool.and_eq_true, and_self, true_and, and_true]; done))
    refine ⟨?_, ?_⟩
    · rw [conv_len (by omega) rfl]; exact Nat.le_trans (Nat.le_of_eq (by simp only [Nat.add_mul])) (Nat.mul_le_mul_right 2 (show k + 1 ≤ a.l.length from hlt))
    repeat' first | refine T_seq_region rfl ?_ | refine T_region rfl ?_ | refine T_ret ?_ | refine T_block ?_ | refine T_skip ?_ | refine T_exit ?_ | (simp (maxSteps := 2000000) only [go_sem, Nat.reduceAdd, Nat.reduceMul, Nat.reduceBEq, Nat.reduceLeDiff, Nat.reduceLT, Nat.reduceEqDiff]; try rfl) | refine T_seq ?_ | (refine And.intro ?_ ?_; focus (intros; simp_all only [Bool.or_eq_false_iff, Bool.or_eq_true, Bool.and_eq_true, and_self, true_and, and_true]; done))
    exact ⟨k + 1, hlt, by omega, svInt (wrapS hlt (by omega)), row_ext (by rw [List.take_succ_eq_append_getElem hlt]; exact conv_next hle hlt rfl)⟩
  · have hge := ge_of_dec hd
    refine T_exit ?_
    simp (maxSteps := 2000000) only [go_sem, Nat.reduceAdd, Nat.reduceMul, Nat.reduceBEq, Nat.reduceLeDiff, Nat.reduceLT, Nat.reduceEqDiff]
    refine T_pubM 0 a.l rfl rfl rfl (by rw [List.take_of_length_le hge]; exact conv_all (Nat.le_refl _)) (by decide) (fun x hx => by obtain ⟨i, hi, rfl⟩ := List.getElem_of_mem hx; exact ha.el hi) h (Hp.le_refl _) (Mines.flat (fun _ => rfl) (fun _ => trivial)) fun s h' e1 e2 e3 e4 => ?_
    repeat' first | refine T_seq_region rfl ?_ | refine T_region rfl ?_ | refine T_ret ?_ | refine T_block ?_ | refine T_skip ?_ | refine T_exit ?_ | (simp (maxSteps := 2000000) only [go_sem, Nat.reduceAdd, Nat.reduceMul, Nat.reduceBEq, Nat.reduceLeDiff, Nat.reduceLT, Nat.reduceEqDiff]; try rfl) | refine T_seq ?_ | (refine And.intro ?_ ?_; focus (intros; simp_all only [Bool.or_eq_false_iff, Bool.or_eq_true, Bool.and_eq_true, and_self, true_and, and_true]; done))
    exact ⟨s, rfl, by rw [con_sl, con_sl, e1], e2, e4⟩

theorem toSegmentS_fn (a : Sl DSegment) (h : Hp) (ha : a.Ok h) (hb : Blk.blk a ≤ 1048576) : Ct Try.prog 84 [a.val] h fun v h' => ∃ s : Sl DSegment, v = s.val ∧ Con.con s = Con.con a ∧ s.Ok h' ∧ Mine h h' s := by
  have hl : a.l.length ≤ 1048576 := Nat.le_trans (Nat.le_add_right _ _) hb
  refine Ct_of_T (fun A W => by simp) Try.func84 rfl rfl (by simp) fun W0 => ?_
  repeat' first | refine T_seq_region rfl ?_ | refine T_region rfl ?_ | refine T_ret ?_ | refine T_block ?_ | refine T_skip ?_ | refine T_exit ?_ | (simp (maxSteps := 2000000) only [go_sem, Nat.reduceAdd, Nat.reduceMul, Nat.reduceBEq, Nat.reduceLeDiff, Nat.reduceLT, Nat.reduceEqDiff]; try rfl) | refine T_seq ?_ | (refine And.intro ?_ ?_; focus (intros; simp_all only [Bool.or_eq_false_iff, Bool.or_eq_true, Bool.and_eq_true, and_self, true_and, and_true]; done))
  refine ⟨by simp only [maxLen]; omega, by omega, ?_⟩
  repeat' first | refine T_seq_region rfl ?_ | refine T_region rfl ?_ | refine T_ret ?_ | refine T_block ?_ | refine T_skip ?_ | refine T_exit ?_ | (simp (maxSteps := 2000000) only [go_sem, Nat.reduceAdd, Nat.reduceMul, Nat.reduceBEq, Nat.reduceLeDiff, Nat.reduceLT, Nat.reduceEqDiff]; try rfl) | refine T_seq ?_ | (refine And.intro ?_ ?_; focus (intros; simp_all only [Bool.or_eq_false_iff, Bool.or_eq_true, Bool.and_eq_true, and_self, true_and, and_true]; done))
  refine T_loop (ι := Nat) (fun k => ⟨[(0, true, .c (.v a.val)), (3, true, .c (.s 0)), (4, true, .c (.v (.int .i64 k)))], [(0, .row 187 5 a.l.length (conv (a.l.take k) a.l.length [.int .i64 0, .int .i64 0, .int .i64 0, .int .i64 0, .bool false]))], h, 1⟩) (fun k => k ≤ a.l.length) (fun k => a.l.length - k) 0 (Nat.zero_le _) ?_ ?_
  · simp (maxSteps := 2000000) only [go_sem, Nat.reduceAdd, Nat.reduceMul, Nat.reduceBEq, Nat.reduceLeDiff, Nat.reduceLT, Nat.reduceEqDiff]
    exact ⟨rfl, row_ext (madeC (α := DSegment) (z := #[.int .i64 0, .int .i64 0, .int .i64 0, .int .i64 0, .bool false]) (by decide))⟩
  intro k hk
  repeat' first | refine T_seq_region rfl ?_ | refine T_region rfl ?_ | refine T_ret ?_ | refine T_block ?_ | refine T_skip ?_ | refine T_exit ?_ | (simp (maxSteps := 2000000) only [go_sem, Nat.reduceAdd, Nat.reduceMul, Nat.reduceBEq, Nat.reduceLeDiff, Nat.reduceLT, Nat.reduceEqDiff]; try rfl) | refine T_seq ?_ | (refine And.intro ?_ ?_; focus (intros; simp_all only [Bool.or_eq_false_iff, Bool.or_eq_true, Bool.and_eq_true, and_self, true_and, and_true]; done))
  refine T_cond rfl (fun hd => ?_) (fun hd => ?_)
  · have hlt := lt_of_dec hd
    have hle : (a.l.take k).length = k := by rw [List.length_take]; omega
    repeat' first | refine T_seq_region rfl ?_ | refine T_region rfl ?_ | refine T_ret ?_ | refine T_block ?_ | refine T_skip ?_ | refine T_exit ?_ | refine vfn_val (fun _ => toSegment_fn _ _) ?_ | (simp (maxSteps := 2000000) only [go_sem, Nat.reduceAdd, Nat.reduceMul, Nat.reduceBEq, Nat.reduceLeDiff, Nat.reduceLT, Nat.reduceEqDiff, at_DSegment ha hlt, ha.some hlt, hlt, Int.toNat_natCast]; try rfl) | refine T_seq ?_ | (refine And.intro ?_ ?_; focus (intros; simp_all only [Bool.or_eq_false_iff, Bool.or_eq_true, Bool.and_eq_true, and_self, true_and, and_true]; done))
    refine ⟨?_, ?_⟩
    · rw [conv_len (by omega) rfl]; exact Nat.le_trans (Nat.le_of_eq (by simp only [Nat.add_mul])) (Nat.mul_le_mul_right 5 (show k + 1 ≤ a.l.length from hlt))
    repeat' first | refine T_seq_region rfl ?_ | refine T_region rfl ?_ | refine T_ret ?_ | refine T_block ?_ | refine T_skip ?_ | refine T_exit ?_ | (simp (maxSteps := 2000000) only [go_sem, Nat.reduceAdd, Nat.reduceMul, Nat.reduceBEq, Nat.reduceLeDiff, Nat.reduceLT, Nat.reduceEqDiff]; try rfl) | refine T_seq ?_ | (refine And.intro ?_ ?_; focus (intros; simp_all only [Bool.or_eq_false_iff, Bool.or_eq_true, Bool.and_eq_true, and_self, true_and, and_true]; done))
    exact ⟨k + 1, hlt, by omega, svInt (wrapS hlt (by omega)), row_ext (by rw [List.take_succ_eq_append_getElem hlt]; exact conv_next hle hlt rfl)⟩
  · have hge := ge_of_dec hd
    refine T_exit ?_
    simp (maxSteps := 2000000) only [go_sem, Nat.reduceAdd, Nat.reduceMul, Nat.reduceBEq, Nat.reduceLeDiff, Nat.reduceLT, Nat.reduceEqDiff]
    refine T_pubM 0 a.l rfl rfl rfl (by rw [List.take_of_length_le hge]; exact conv_all (Nat.le_refl _)) (by decide) (fun x hx => by obtain ⟨i, hi, rfl⟩ := List.getElem_of_mem hx; exact ha.el hi) h (Hp.le_refl _) (Mines.flat (fun _ => rfl) (fun _ => trivial)) fun s h' e1 e2 e3 e4 => ?_
    repeat' first | refine T_seq_region rfl ?_ | refine T_region rfl ?_ | refine T_ret ?_ | refine T_block ?_ | refine T_skip ?_ | refine T_exit ?_ | (simp (maxSteps := 2000000) only [go_sem, Nat.reduceAdd, Nat.reduceMul, Nat.reduceBEq, Nat.reduceLeDiff, Nat.reduceLT, Nat.reduceEqDiff]; try rfl) | refine T_seq ?_ | (refine And.intro ?_ ?_; focus (intros; simp_all only [Bool.or_eq_false_iff, Bool.or_eq_true, Bool.and_eq_true, and_self, true_and, and_true]; done))
    exact ⟨s, rfl, by rw [con_sl, con_sl, e1], e2, e4⟩

theorem toShipS_fn (a : Sl DShip) (h : Hp) (ha : a.Ok h) (hb : Blk.blk a ≤ 1048576) : Ct Try.prog 35 [a.val] h fun v h' => ∃ s : Sl DShip, v = s.val ∧ Con.con s = Con.con a ∧ s.Ok h' ∧ Mine h h' s := by
  have hl : a.l.length ≤ 1048576 := Nat.le_trans (Nat.le_add_right _ _) hb
  refine Ct_of_T (fun A W => by simp) Try.func35 rfl rfl (by simp) fun W0 => ?_
  repeat' first | refine T_seq_region rfl ?_ | refine T_region rfl ?_ | refine T_ret ?_ | refine T_block ?_ | refine T_skip ?_ | refine T_exit ?_ | (simp (maxSteps := 2000000) only [go_sem, Nat.reduceAdd, Nat.reduceMul, Nat.reduceBEq, Nat.reduceLeDiff, Nat.reduceLT, Nat.reduceEqDiff]; try rfl) | refine T_seq ?_ | (refine And.intro ?_ ?_; focus (intros; simp_all only [Bool.or_eq_false_iff, Bool.or_eq_true, Bool.and_eq_true, and_self, true_and, and_true]; done))
  refine ⟨by simp only [maxLen]; omega, by omega, ?_⟩
  repeat' first | refine T_seq_region rfl ?_ | refine T_region rfl ?_ | refine T_ret ?_ | refine T_block ?_ | refine T_skip ?_ | refine T_exit ?_ | (simp (maxSteps := 2000000) only [go_sem, Nat.reduceAdd, Nat.reduceMul, Nat.reduceBEq, Nat.reduceLeDiff, Nat.reduceLT, Nat.reduceEqDiff]; try rfl) | refine T_seq ?_ | (refine And.intro ?_ ?_; focus (intros; simp_all only [Bool.or_eq_false_iff, Bool.or_eq_true, Bool.and_eq_true, and_self, true_and, and_true]; done))
  refine T_loop (ι := Nat) (fun k => ⟨[(0, true, .c (.v a.val)), (3, true, .c (.s 0)), (4, true, .c (.v (.int .i64 k)))], [(0, .row 149 6 a.l.length (conv (a.l.take k) a.l.length [.string ByteArray.empty, .int .i64 0, .int .i64 0, .int .i64 0, .int .i64 0, .bool false]))], h, 1⟩) (fun k => k ≤ a.l.length) (fun k => a.l.length - k) 0 (Nat.zero_le _) ?_ ?_
  · simp (maxSteps := 2000000) only [go_sem, Nat.reduceAdd, Nat.reduceMul, Nat.reduceBEq, Nat.reduceLeDiff, Nat.reduceLT, Nat.reduceEqDiff]
    exact ⟨rfl, row_ext (madeC (α := DShip) (z := #[.string ByteArray.empty, .int .i64 0, .int .i64 0, .int .i64 0, .int .i64 0, .bool false]) (by decide))⟩
  intro k hk
  repeat' first | refine T_seq_region rfl ?_ | refine T_region rfl ?_ | refine T_ret ?_ | refine T_block ?_ | refine T_skip ?_ | refine T_exit ?_ | (simp (maxSteps := 2000000) only [go_sem, Nat.reduceAdd, Nat.reduceMul, Nat.reduceBEq, Nat.reduceLeDiff, Nat.reduceLT, Nat.reduceEqDiff]; try rfl) | refine T_seq ?_ | (refine And.intro ?_ ?_; focus (intros; simp_all only [Bool.or_eq_false_iff, Bool.or_eq_true, Bool.and_eq_true, and_self, true_and, and_true]; done))
  refine T_cond rfl (fun hd => ?_) (fun hd => ?_)
  · have hlt := lt_of_dec hd
    have hle : (a.l.take k).length = k := by rw [List.length_take]; omega
    repeat' first | refine T_seq_region rfl ?_ | refine T_region rfl ?_ | refine T_ret ?_ | refine T_block ?_ | refine T_skip ?_ | refine T_exit ?_ | refine vfn_val (fun _ => toShip_fn _ _) ?_ | (simp (maxSteps := 2000000) only [go_sem, Nat.reduceAdd, Nat.reduceMul, Nat.reduceBEq, Nat.reduceLeDiff, Nat.reduceLT, Nat.reduceEqDiff, at_DShip ha hlt, ha.some hlt, hlt, Int.toNat_natCast]; try rfl) | refine T_seq ?_ | (refine And.intro ?_ ?_; focus (intros; simp_all only [Bool.or_eq_false_iff, Bool.or_eq_true, Bool.and_eq_true, and_self, true_and, and_true]; done))
    refine ⟨?_, ?_⟩
    · rw [conv_len (by omega) rfl]; exact Nat.le_trans (Nat.le_of_eq (by simp only [Nat.add_mul])) (Nat.mul_le_mul_right 6 (show k + 1 ≤ a.l.length from hlt))
    repeat' first | refine T_seq_region rfl ?_ | refine T_region rfl ?_ | refine T_ret ?_ | refine T_block ?_ | refine T_skip ?_ | refine T_exit ?_ | (simp (maxSteps := 2000000) only [go_sem, Nat.reduceAdd, Nat.reduceMul, Nat.reduceBEq, Nat.reduceLeDiff, Nat.reduceLT, Nat.reduceEqDiff]; try rfl) | refine T_seq ?_ | (refine And.intro ?_ ?_; focus (intros; simp_all only [Bool.or_eq_false_iff, Bool.or_eq_true, Bool.and_eq_true, and_self, true_and, and_true]; done))
    exact ⟨k + 1, hlt, by omega, svInt (wrapS hlt (by omega)), row_ext (by rw [List.take_succ_eq_append_getElem hlt]; exact conv_next hle hlt rfl)⟩
  · have hge := ge_of_dec hd
    refine T_exit ?_
    simp (maxSteps := 2000000) only [go_sem, Nat.reduceAdd, Nat.reduceMul, Nat.reduceBEq, Nat.reduceLeDiff, Nat.reduceLT, Nat.reduceEqDiff]
    refine T_pubM 0 a.l rfl rfl rfl (by rw [List.take_of_length_le hge]; exact conv_all (Nat.le_refl _)) (by decide) (fun x hx => by obtain ⟨i, hi, rfl⟩ := List.getElem_of_mem hx; exact ha.el hi) h (Hp.le_refl _) (Mines.flat (fun _ => rfl) (fun _ => trivial)) fun s h' e1 e2 e3 e4 => ?_
    repeat' first | refine T_seq_region rfl ?_ | refine T_region rfl ?_ | refine T_ret ?_ | refine T_block ?_ | refine T_skip ?_ | refine T_exit ?_ | (simp (maxSteps := 2000000) only [go_sem, Nat.reduceAdd, Nat.reduceMul, Nat.reduceBEq, Nat.reduceLeDiff, Nat.reduceLT, Nat.reduceEqDiff]; try rfl) | refine T_seq ?_ | (refine And.intro ?_ ?_; focus (intros; simp_all only [Bool.or_eq_false_iff, Bool.or_eq_true, Bool.and_eq_true, and_self, true_and, and_true]; done))
    exact ⟨s, rfl, by rw [con_sl, con_sl, e1], e2, e4⟩

theorem toSurgeS_fn (a : Sl DSurge) (h : Hp) (ha : a.Ok h) (hb : Blk.blk a ≤ 1048576) : Ct Try.prog 144 [a.val] h fun v h' => ∃ s : Sl DSurge, v = s.val ∧ Con.con s = Con.con a ∧ s.Ok h' ∧ Mine h h' s := by
  have hl : a.l.length ≤ 1048576 := Nat.le_trans (Nat.le_add_right _ _) hb
  refine Ct_of_T (fun A W => by simp) Try.func144 rfl rfl (by simp) fun W0 => ?_
  repeat' first | refine T_seq_region rfl ?_ | refine T_region rfl ?_ | refine T_ret ?_ | refine T_block ?_ | refine T_skip ?_ | refine T_exit ?_ | (simp (maxSteps := 2000000) only [go_sem, Nat.reduceAdd, Nat.reduceMul, Nat.reduceBEq, Nat.reduceLeDiff, Nat.reduceLT, Nat.reduceEqDiff]; try rfl) | refine T_seq ?_ | (refine And.intro ?_ ?_; focus (intros; simp_all only [Bool.or_eq_false_iff, Bool.or_eq_true, Bool.and_eq_true, and_self, true_and, and_true]; done))
  refine ⟨by simp only [maxLen]; omega, by omega, ?_⟩
  repeat' first | refine T_seq_region rfl ?_ | refine T_region rfl ?_ | refine T_ret ?_ | refine T_block ?_ | refine T_skip ?_ | refine T_exit ?_ | (simp (maxSteps := 2000000) only [go_sem, Nat.reduceAdd, Nat.reduceMul, Nat.reduceBEq, Nat.reduceLeDiff, Nat.reduceLT, Nat.reduceEqDiff]; try rfl) | refine T_seq ?_ | (refine And.intro ?_ ?_; focus (intros; simp_all only [Bool.or_eq_false_iff, Bool.or_eq_true, Bool.and_eq_true, and_self, true_and, and_true]; done))
  refine T_loop (ι := Nat) (fun k => ⟨[(0, true, .c (.v a.val)), (3, true, .c (.s 0)), (4, true, .c (.v (.int .i64 k)))], [(0, .row 201 3 a.l.length (conv (a.l.take k) a.l.length [.int .i64 0, .int .i64 0, .int .i64 0]))], h, 1⟩) (fun k => k ≤ a.l.length) (fun k => a.l.length - k) 0 (Nat.zero_le _) ?_ ?_
  · simp (maxSteps := 2000000) only [go_sem, Nat.reduceAdd, Nat.reduceMul, Nat.reduceBEq, Nat.reduceLeDiff, Nat.reduceLT, Nat.reduceEqDiff]
    exact ⟨rfl, row_ext (madeC (α := DSurge) (z := #[.int .i64 0, .int .i64 0, .int .i64 0]) (by decide))⟩
  intro k hk
  repeat' first | refine T_seq_region rfl ?_ | refine T_region rfl ?_ | refine T_ret ?_ | refine T_block ?_ | refine T_skip ?_ | refine T_exit ?_ | (simp (maxSteps := 2000000) only [go_sem, Nat.reduceAdd, Nat.reduceMul, Nat.reduceBEq, Nat.reduceLeDiff, Nat.reduceLT, Nat.reduceEqDiff]; try rfl) | refine T_seq ?_ | (refine And.intro ?_ ?_; focus (intros; simp_all only [Bool.or_eq_false_iff, Bool.or_eq_true, Bool.and_eq_true, and_self, true_and, and_true]; done))
  refine T_cond rfl (fun hd => ?_) (fun hd => ?_)
  · have hlt := lt_of_dec hd
    have hle : (a.l.take k).length = k := by rw [List.length_take]; omega
    repeat' first | refine T_seq_region rfl ?_ | refine T_region rfl ?_ | refine T_ret ?_ | refine T_block ?_ | refine T_skip ?_ | refine T_exit ?_ | refine vfn_val (fun _ => toSurge_fn _ _) ?_ | (simp (maxSteps := 2000000) only [go_sem, Nat.reduceAdd, Nat.reduceMul, Nat.reduceBEq, Nat.reduceLeDiff, Nat.reduceLT, Nat.reduceEqDiff, at_DSurge ha hlt, ha.some hlt, hlt, Int.toNat_natCast]; try rfl) | refine T_seq ?_ | (refine And.intro ?_ ?_; focus (intros; simp_all only [Bool.or_eq_false_iff, Bool.or_eq_true, Bool.and_eq_true, and_self, true_and, and_true]; done))
    refine ⟨?_, ?_⟩
    · rw [conv_len (by omega) rfl]; exact Nat.le_trans (Nat.le_of_eq (by simp only [Nat.add_mul])) (Nat.mul_le_mul_right 3 (show k + 1 ≤ a.l.length from hlt))
    repeat' first | refine T_seq_region rfl ?_ | refine T_region rfl ?_ | refine T_ret ?_ | refine T_block ?_ | refine T_skip ?_ | refine T_exit ?_ | (simp (maxSteps := 2000000) only [go_sem, Nat.reduceAdd, Nat.reduceMul, Nat.reduceBEq, Nat.reduceLeDiff, Nat.reduceLT, Nat.reduceEqDiff]; try rfl) | refine T_seq ?_ | (refine And.intro ?_ ?_; focus (intros; simp_all only [Bool.or_eq_false_iff, Bool.or_eq_true, Bool.and_eq_true, and_self, true_and, and_true]; done))
    exact ⟨k + 1, hlt, by omega, svInt (wrapS hlt (by omega)), row_ext (by rw [List.take_succ_eq_append_getElem hlt]; exact conv_next hle hlt rfl)⟩
  · have hge := ge_of_dec hd
    refine T_exit ?_
    simp (maxSteps := 2000000) only [go_sem, Nat.reduceAdd, Nat.reduceMul, Nat.reduceBEq, Nat.reduceLeDiff, Nat.reduceLT, Nat.reduceEqDiff]
    refine T_pubM 0 a.l rfl rfl rfl (by rw [List.take_of_length_le hge]; exact conv_all (Nat.le_refl _)) (by decide) (fun x hx => by obtain ⟨i, hi, rfl⟩ := List.getElem_of_mem hx; exact ha.el hi) h (Hp.le_refl _) (Mines.flat (fun _ => rfl) (fun _ => trivial)) fun s h' e1 e2 e3 e4 => ?_
    repeat' first | refine T_seq_region rfl ?_ | refine T_region rfl ?_ | refine T_ret ?_ | refine T_block ?_ | refine T_skip ?_ | refine T_exit ?_ | (simp (maxSteps := 2000000) only [go_sem, Nat.reduceAdd, Nat.reduceMul, Nat.reduceBEq, Nat.reduceLeDiff, Nat.reduceLT, Nat.reduceEqDiff]; try rfl) | refine T_seq ?_ | (refine And.intro ?_ ?_; focus (intros; simp_all only [Bool.or_eq_false_iff, Bool.or_eq_true, Bool.and_eq_true, and_self, true_and, and_true]; done))
    exact ⟨s, rfl, by rw [con_sl, con_sl, e1], e2, e4⟩

theorem toChart_fn (c : DChart) (h : Hp) (hc : Enc.ok h c) (hb : Blk.blk c ≤ 1048576) : Ct Try.prog 34 [.agg #[c.points.val, c.segments.val]] h fun v h' => ∃ d : DChart, v = .agg #[d.points.val, d.segments.val] ∧ Con.con d = Con.con c ∧ Enc.ok h' d ∧ Mine h h' d := by
  rw [blk_DChart] at hb
  obtain ⟨o_points, o_segments⟩ := hc
  refine Ct_of_T (fun A W => by simp) Try.func34 rfl rfl (by simp) fun W0 => ?_
  repeat' first | refine T_seq_region rfl ?_ | refine T_region rfl ?_ | refine T_ret ?_ | refine T_block ?_ | refine T_skip ?_ | refine T_exit ?_ | (simp (maxSteps := 2000000) only [go_sem, Nat.reduceAdd, Nat.reduceMul, Nat.reduceBEq, Nat.reduceLeDiff, Nat.reduceLT, Nat.reduceEqDiff]; try rfl) | refine T_seq ?_ | (refine And.intro ?_ ?_; focus (intros; simp_all only [Bool.or_eq_false_iff, Bool.or_eq_true, Bool.and_eq_true, and_self, true_and, and_true]; done))
  refine vfn_at (toPointS_fn _ _ o_points (by omega)) rfl ?_
  rintro v h_0 le_0 ⟨s_0, rfl, e_0, ok_0, m_0⟩
  repeat' first | refine T_seq_region rfl ?_ | refine T_region rfl ?_ | refine T_ret ?_ | refine T_block ?_ | refine T_skip ?_ | refine T_exit ?_ | (simp (maxSteps := 2000000) only [go_sem, Nat.reduceAdd, Nat.reduceMul, Nat.reduceBEq, Nat.reduceLeDiff, Nat.reduceLT, Nat.reduceEqDiff]; try rfl) | refine T_seq ?_ | (refine And.intro ?_ ?_; focus (intros; simp_all only [Bool.or_eq_false_iff, Bool.or_eq_true, Bool.and_eq_true, and_self, true_and, and_true]; done))
  refine vfn_at (toSegmentS_fn _ _ (o_segments.mono le_0) (by omega)) rfl ?_
  rintro v h_1 le_1 ⟨s_1, rfl, e_1, ok_1, m_1⟩
  repeat' first | refine T_seq_region rfl ?_ | refine T_region rfl ?_ | refine T_ret ?_ | refine T_block ?_ | refine T_skip ?_ | refine T_exit ?_ | (simp (maxSteps := 2000000) only [go_sem, Nat.reduceAdd, Nat.reduceMul, Nat.reduceBEq, Nat.reduceLeDiff, Nat.reduceLT, Nat.reduceEqDiff]; try rfl) | refine T_seq ?_ | (refine And.intro ?_ ?_; focus (intros; simp_all only [Bool.or_eq_false_iff, Bool.or_eq_true, Bool.and_eq_true, and_self, true_and, and_true]; done))
  exact ⟨⟨s_0, s_1⟩, rfl, by rw [con_DChart, con_DChart]; simp only [e_0, e_1], ⟨ok_0.mono le_1, ok_1⟩, News.mine ⟨(Mine.on le_1 ok_0 m_0).1, m_1.1⟩ (m_0.news.append le_0 le_1 m_1.news)⟩

theorem toOption_fn (c : DOption) (h : Hp) (hc : Enc.ok h c) (hb : Blk.blk c ≤ 1048576) : Ct Try.prog 65 [.agg #[.int .i64 c.start, .int .i64 c.arr, .int .i64 c.cost, c.pas.val]] h fun v h' => ∃ d : DOption, v = .agg #[.int .i64 d.start, .int .i64 d.arr, .int .i64 d.cost, d.pas.val] ∧ Con.con d = Con.con c ∧ Enc.ok h' d ∧ Mine h h' d := by
  rw [blk_DOption] at hb
  obtain ⟨o_start, o_arr, o_cost, o_pas⟩ := hc
  refine Ct_of_T (fun A W => by simp) Try.func65 rfl rfl (by simp) fun W0 => ?_
  repeat' first | refine T_seq_region rfl ?_ | refine T_region rfl ?_ | refine T_ret ?_ | refine T_block ?_ | refine T_skip ?_ | refine T_exit ?_ | (simp (maxSteps := 2000000) only [go_sem, Nat.reduceAdd, Nat.reduceMul, Nat.reduceBEq, Nat.reduceLeDiff, Nat.reduceLT, Nat.reduceEqDiff]; try rfl) | refine T_seq ?_ | (refine And.intro ?_ ?_; focus (intros; simp_all only [Bool.or_eq_false_iff, Bool.or_eq_true, Bool.and_eq_true, and_self, true_and, and_true]; done))
  refine vfn_at (toPassageS_fn _ _ o_pas (by omega)) rfl ?_
  rintro v h_0 le_0 ⟨s_0, rfl, e_0, ok_0, m_0⟩
  repeat' first | refine T_seq_region rfl ?_ | refine T_region rfl ?_ | refine T_ret ?_ | refine T_block ?_ | refine T_skip ?_ | refine T_exit ?_ | (simp (maxSteps := 2000000) only [go_sem, Nat.reduceAdd, Nat.reduceMul, Nat.reduceBEq, Nat.reduceLeDiff, Nat.reduceLT, Nat.reduceEqDiff]; try rfl) | refine T_seq ?_ | (refine And.intro ?_ ?_; focus (intros; simp_all only [Bool.or_eq_false_iff, Bool.or_eq_true, Bool.and_eq_true, and_self, true_and, and_true]; done))
  exact ⟨⟨c.start, c.arr, c.cost, s_0⟩, rfl, by rw [con_DOption, con_DOption]; simp only [e_0], ⟨o_start, o_arr, o_cost, ok_0⟩, News.mine (m_0.1) m_0.news⟩

theorem toTide_fn (c : DTide) (h : Hp) (hc : Enc.ok h c) (hb : Blk.blk c ≤ 1048576) : Ct Try.prog 143 [.agg #[.int .i64 c.mean, c.parts.val]] h fun v h' => ∃ d : DTide, v = .agg #[.int .i64 d.mean, d.parts.val] ∧ Con.con d = Con.con c ∧ Enc.ok h' d ∧ Mine h h' d := by
  rw [blk_DTide] at hb
  obtain ⟨o_mean, o_parts⟩ := hc
  refine Ct_of_T (fun A W => by simp) Try.func143 rfl rfl (by simp) fun W0 => ?_
  repeat' first | refine T_seq_region rfl ?_ | refine T_region rfl ?_ | refine T_ret ?_ | refine T_block ?_ | refine T_skip ?_ | refine T_exit ?_ | (simp (maxSteps := 2000000) only [go_sem, Nat.reduceAdd, Nat.reduceMul, Nat.reduceBEq, Nat.reduceLeDiff, Nat.reduceLT, Nat.reduceEqDiff]; try rfl) | refine T_seq ?_ | (refine And.intro ?_ ?_; focus (intros; simp_all only [Bool.or_eq_false_iff, Bool.or_eq_true, Bool.and_eq_true, and_self, true_and, and_true]; done))
  refine vfn_at (toPartS_fn _ _ o_parts (by omega)) rfl ?_
  rintro v h_0 le_0 ⟨s_0, rfl, e_0, ok_0, m_0⟩
  repeat' first | refine T_seq_region rfl ?_ | refine T_region rfl ?_ | refine T_ret ?_ | refine T_block ?_ | refine T_skip ?_ | refine T_exit ?_ | (simp (maxSteps := 2000000) only [go_sem, Nat.reduceAdd, Nat.reduceMul, Nat.reduceBEq, Nat.reduceLeDiff, Nat.reduceLT, Nat.reduceEqDiff]; try rfl) | refine T_seq ?_ | (refine And.intro ?_ ?_; focus (intros; simp_all only [Bool.or_eq_false_iff, Bool.or_eq_true, Bool.and_eq_true, and_self, true_and, and_true]; done))
  exact ⟨⟨c.mean, s_0⟩, rfl, by rw [con_DTide, con_DTide]; simp only [e_0], ⟨o_mean, ok_0⟩, News.mine (m_0.1) m_0.news⟩

theorem toForecast_fn (c : DForecast) (h : Hp) (hc : Enc.ok h c) (hb : Blk.blk c ≤ 1048576) : Ct Try.prog 106 [.agg #[.int .i64 c.tide.mean, c.tide.parts.val, c.surges.val]] h fun v h' => ∃ d : DForecast, v = .agg #[.int .i64 d.tide.mean, d.tide.parts.val, d.surges.val] ∧ Con.con d = Con.con c ∧ Enc.ok h' d ∧ Mine h h' d := by
  rw [blk_DForecast] at hb
  obtain ⟨o_tide, o_surges⟩ := hc
  refine Ct_of_T (fun A W => by simp) Try.func106 rfl rfl (by simp) fun W0 => ?_
  repeat' first | refine T_seq_region rfl ?_ | refine T_region rfl ?_ | refine T_ret ?_ | refine T_block ?_ | refine T_skip ?_ | refine T_exit ?_ | (simp (maxSteps := 2000000) only [go_sem, Nat.reduceAdd, Nat.reduceMul, Nat.reduceBEq, Nat.reduceLeDiff, Nat.reduceLT, Nat.reduceEqDiff]; try rfl) | refine T_seq ?_ | (refine And.intro ?_ ?_; focus (intros; simp_all only [Bool.or_eq_false_iff, Bool.or_eq_true, Bool.and_eq_true, and_self, true_and, and_true]; done))
  refine vfn_at (toTide_fn _ _ o_tide (by omega)) rfl ?_
  rintro v h_0 le_0 ⟨s_0, rfl, e_0, ok_0, m_0⟩
  repeat' first | refine T_seq_region rfl ?_ | refine T_region rfl ?_ | refine T_ret ?_ | refine T_block ?_ | refine T_skip ?_ | refine T_exit ?_ | (simp (maxSteps := 2000000) only [go_sem, Nat.reduceAdd, Nat.reduceMul, Nat.reduceBEq, Nat.reduceLeDiff, Nat.reduceLT, Nat.reduceEqDiff]; try rfl) | refine T_seq ?_ | (refine And.intro ?_ ?_; focus (intros; simp_all only [Bool.or_eq_false_iff, Bool.or_eq_true, Bool.and_eq_true, and_self, true_and, and_true]; done))
  refine vfn_at (toSurgeS_fn _ _ (o_surges.mono le_0) (by omega)) rfl ?_
  rintro v h_1 le_1 ⟨s_1, rfl, e_1, ok_1, m_1⟩
  repeat' first | refine T_seq_region rfl ?_ | refine T_region rfl ?_ | refine T_ret ?_ | refine T_block ?_ | refine T_skip ?_ | refine T_exit ?_ | (simp (maxSteps := 2000000) only [go_sem, Nat.reduceAdd, Nat.reduceMul, Nat.reduceBEq, Nat.reduceLeDiff, Nat.reduceLT, Nat.reduceEqDiff]; try rfl) | refine T_seq ?_ | (refine And.intro ?_ ?_; focus (intros; simp_all only [Bool.or_eq_false_iff, Bool.or_eq_true, Bool.and_eq_true, and_self, true_and, and_true]; done))
  exact ⟨⟨s_0, s_1⟩, rfl, by rw [con_DForecast, con_DForecast]; simp only [e_0, e_1], ⟨Enc.mono le_1 ok_0, ok_1⟩, News.mine ⟨(Mine.on le_1 ok_0 m_0).1, m_1.1⟩ (m_0.news.append le_0 le_1 m_1.news)⟩

theorem toOptionS_fn (a : Sl DOption) (h : Hp) (ha : a.Ok h) (hb : Blk.blk a ≤ 1048576) : Ct Try.prog 14 [a.val] h fun v h' => ∃ s : Sl DOption, v = s.val ∧ Con.con s = Con.con a ∧ s.Ok h' ∧ Mine h h' s := by
  have hl : a.l.length ≤ 1048576 := Nat.le_trans (Nat.le_add_right _ _) hb
  refine Ct_of_T (fun A W => by simp) Try.func14 rfl rfl (by simp) fun W0 => ?_
  repeat' first | refine T_seq_region rfl ?_ | refine T_region rfl ?_ | refine T_ret ?_ | refine T_block ?_ | refine T_skip ?_ | refine T_exit ?_ | (simp (maxSteps := 2000000) only [go_sem, Nat.reduceAdd, Nat.reduceMul, Nat.reduceBEq, Nat.reduceLeDiff, Nat.reduceLT, Nat.reduceEqDiff]; try rfl) | refine T_seq ?_ | (refine And.intro ?_ ?_; focus (intros; simp_all only [Bool.or_eq_false_iff, Bool.or_eq_true, Bool.and_eq_true, and_self, true_and, and_true]; done))
  refine ⟨by simp only [maxLen]; omega, by omega, ?_⟩
  repeat' first | refine T_seq_region rfl ?_ | refine T_region rfl ?_ | refine T_ret ?_ | refine T_block ?_ | refine T_skip ?_ | refine T_exit ?_ | (simp (maxSteps := 2000000) only [go_sem, Nat.reduceAdd, Nat.reduceMul, Nat.reduceBEq, Nat.reduceLeDiff, Nat.reduceLT, Nat.reduceEqDiff]; try rfl) | refine T_seq ?_ | (refine And.intro ?_ ?_; focus (intros; simp_all only [Bool.or_eq_false_iff, Bool.or_eq_true, Bool.and_eq_true, and_self, true_and, and_true]; done))
  refine T_loop (ι := Nat × List DOption × Hp) (fun i => match i with | (k, ds, hk) => ⟨[(0, true, .c (.v a.val)), (3, true, .c (.s 0)), (4, true, .c (.v (.int .i64 k)))], [(0, .row 125 4 a.l.length (conv ds a.l.length [.int .i64 0, .int .i64 0, .int .i64 0, .slice none 0 0]))], hk, 1⟩) (fun i => i.1 ≤ a.l.length ∧ i.2.1.length = i.1 ∧ i.2.1.map Con.con = (Con.con a).take i.1 ∧ (∀ d ∈ i.2.1, Enc.ok i.2.2 d) ∧ h.le i.2.2 ∧ Mines h i.2.2 i.2.1) (fun i => a.l.length - i.1) (0, [], h) ⟨Nat.zero_le _, rfl, rfl, fun _ h => (by cases h), Hp.le_refl _, Mines.nil⟩ ?_ ?_
  · simp (maxSteps := 2000000) only [go_sem, Nat.reduceAdd, Nat.reduceMul, Nat.reduceBEq, Nat.reduceLeDiff, Nat.reduceLT, Nat.reduceEqDiff]
    exact ⟨rfl, row_ext (madeC (α := DOption) (z := #[.int .i64 0, .int .i64 0, .int .i64 0, .slice none 0 0]) (by decide))⟩
  rintro ⟨k, ds, hk⟩ ⟨hi, hn, hm, ho, hle, hmi⟩
  simp only at hi hn hm ho hle hmi
  have ha' := ha.mono hle
  repeat' first | refine T_seq_region rfl ?_ | refine T_region rfl ?_ | refine T_ret ?_ | refine T_block ?_ | refine T_skip ?_ | refine T_exit ?_ | (simp (maxSteps := 2000000) only [go_sem, Nat.reduceAdd, Nat.reduceMul, Nat.reduceBEq, Nat.reduceLeDiff, Nat.reduceLT, Nat.reduceEqDiff]; try rfl) | refine T_seq ?_ | (refine And.intro ?_ ?_; focus (intros; simp_all only [Bool.or_eq_false_iff, Bool.or_eq_true, Bool.and_eq_true, and_self, true_and, and_true]; done))
  refine T_cond rfl (fun hd => ?_) (fun hd => ?_)
  · have hlt := lt_of_dec hd
    have hbk : Blk.blk a.l[k] ≤ 1048576 := by
      have h1 := mem_le_sum (List.mem_map_of_mem (f := Blk.blk) (List.getElem_mem hlt))
      rw [blk_sl] at hb; omega
    repeat' first | refine T_seq_region rfl ?_ | refine T_region rfl ?_ | refine T_ret ?_ | refine T_block ?_ | refine T_skip ?_ | refine T_exit ?_ | (simp (maxSteps := 2000000) only [go_sem, Nat.reduceAdd, Nat.reduceMul, Nat.reduceBEq, Nat.reduceLeDiff, Nat.reduceLT, Nat.reduceEqDiff, at_DOption ha' hlt, ha.some hlt, hlt, Int.toNat_natCast]; try rfl) | refine T_seq ?_ | (refine And.intro ?_ ?_; focus (intros; simp_all only [Bool.or_eq_false_iff, Bool.or_eq_true, Bool.and_eq_true, and_self, true_and, and_true]; done))
    refine vfn_at (toOption_fn _ _ (ha'.el hlt) hbk) rfl ?_
    rintro v h1 hle1 ⟨d, rfl, e1, e2, e3⟩
    repeat' first | refine T_seq_region rfl ?_ | refine T_region rfl ?_ | refine T_ret ?_ | refine T_block ?_ | refine T_skip ?_ | refine T_exit ?_ | (simp (maxSteps := 2000000) only [go_sem, Nat.reduceAdd, Nat.reduceMul, Nat.reduceBEq, Nat.reduceLeDiff, Nat.reduceLT, Nat.reduceEqDiff]; try rfl) | refine T_seq ?_ | (refine And.intro ?_ ?_; focus (intros; simp_all only [Bool.or_eq_false_iff, Bool.or_eq_true, Bool.and_eq_true, and_self, true_and, and_true]; done))
    refine ⟨?_, ?_⟩
    · rw [conv_len (by omega) rfl]; exact Nat.le_trans (Nat.le_of_eq (by simp only [Nat.add_mul])) (Nat.mul_le_mul_right 4 (show k + 1 ≤ a.l.length from hlt))
    repeat' first | refine T_seq_region rfl ?_ | refine T_region rfl ?_ | refine T_ret ?_ | refine T_block ?_ | refine T_skip ?_ | refine T_exit ?_ | (simp (maxSteps := 2000000) only [go_sem, Nat.reduceAdd, Nat.reduceMul, Nat.reduceBEq, Nat.reduceLeDiff, Nat.reduceLT, Nat.reduceEqDiff]; try rfl) | refine T_seq ?_ | (refine And.intro ?_ ?_; focus (intros; simp_all only [Bool.or_eq_false_iff, Bool.or_eq_true, Bool.and_eq_true, and_self, true_and, and_true]; done))
    refine ⟨(k + 1, ds ++ [d], h1), ⟨hlt, by simp [hn], ?_, ?_, Hp.le_trans hle hle1, hmi.snoc ho hle1 hle e3⟩, by simp only; omega, ?_⟩
    · have gA : (Con.con a)[k]'(by rw [con_sl, List.length_map]; exact hlt) = Con.con a.l[k] := List.getElem_map ..
      rw [List.map_append, hm, List.take_succ_eq_append_getElem (by rw [con_sl, List.length_map]; exact hlt), gA, ← e1]; rfl
    · intro x hx
      rcases List.mem_append.1 hx with hx | hx
      · exact Enc.mono hle1 (ho x hx)
      · rw [List.mem_singleton.1 hx]; exact e2
    · simp (maxSteps := 2000000) only [go_sem, Nat.reduceAdd, Nat.reduceMul, Nat.reduceBEq, Nat.reduceLeDiff, Nat.reduceLT, Nat.reduceEqDiff]
      exact ⟨svInt (wrapS hlt (by omega)), row_ext (conv_next hn hlt rfl)⟩
  · have hge := ge_of_dec hd
    have hke : k = a.l.length := Nat.le_antisymm hi hge
    refine T_exit ?_
    simp (maxSteps := 2000000) only [go_sem, Nat.reduceAdd, Nat.reduceMul, Nat.reduceBEq, Nat.reduceLeDiff, Nat.reduceLT, Nat.reduceEqDiff]
    refine T_pubM 0 ds rfl rfl (by omega) (conv_all (by omega)) (by decide) ho h hle hmi fun s h' e1 e2 e3 e4 => ?_
    repeat' first | refine T_seq_region rfl ?_ | refine T_region rfl ?_ | refine T_ret ?_ | refine T_block ?_ | refine T_skip ?_ | refine T_exit ?_ | (simp (maxSteps := 2000000) only [go_sem, Nat.reduceAdd, Nat.reduceMul, Nat.reduceBEq, Nat.reduceLeDiff, Nat.reduceLT, Nat.reduceEqDiff]; try rfl) | refine T_seq ?_ | (refine And.intro ?_ ?_; focus (intros; simp_all only [Bool.or_eq_false_iff, Bool.or_eq_true, Bool.and_eq_true, and_self, true_and, and_true]; done))
    exact ⟨s, rfl, by rw [con_sl, e1, hm, hke, List.take_of_length_le (by rw [con_sl, List.length_map]; exact Nat.le_refl _)], e2, e4⟩

theorem toBranch_fn (c : DBranch) (h : Hp) (hc : Enc.ok h c) (hb : Blk.blk c ≤ 1048576) : Ct Try.prog 121 [.agg #[.int .i64 c.low, .int .i64 c.high, c.plan.val]] h fun v h' => ∃ d : DBranch, v = .agg #[.int .i64 d.low, .int .i64 d.high, d.plan.val] ∧ Con.con d = Con.con c ∧ Enc.ok h' d ∧ Mine h h' d := by
  rw [blk_DBranch] at hb
  obtain ⟨o_low, o_high, o_plan⟩ := hc
  refine Ct_of_T (fun A W => by simp) Try.func121 rfl rfl (by simp) fun W0 => ?_
  repeat' first | refine T_seq_region rfl ?_ | refine T_region rfl ?_ | refine T_ret ?_ | refine T_block ?_ | refine T_skip ?_ | refine T_exit ?_ | (simp (maxSteps := 2000000) only [go_sem, Nat.reduceAdd, Nat.reduceMul, Nat.reduceBEq, Nat.reduceLeDiff, Nat.reduceLT, Nat.reduceEqDiff]; try rfl) | refine T_seq ?_ | (refine And.intro ?_ ?_; focus (intros; simp_all only [Bool.or_eq_false_iff, Bool.or_eq_true, Bool.and_eq_true, and_self, true_and, and_true]; done))
  refine vfn_at (toOptionS_fn _ _ o_plan (by omega)) rfl ?_
  rintro v h_0 le_0 ⟨s_0, rfl, e_0, ok_0, m_0⟩
  repeat' first | refine T_seq_region rfl ?_ | refine T_region rfl ?_ | refine T_ret ?_ | refine T_block ?_ | refine T_skip ?_ | refine T_exit ?_ | (simp (maxSteps := 2000000) only [go_sem, Nat.reduceAdd, Nat.reduceMul, Nat.reduceBEq, Nat.reduceLeDiff, Nat.reduceLT, Nat.reduceEqDiff]; try rfl) | refine T_seq ?_ | (refine And.intro ?_ ?_; focus (intros; simp_all only [Bool.or_eq_false_iff, Bool.or_eq_true, Bool.and_eq_true, and_self, true_and, and_true]; done))
  exact ⟨⟨c.low, c.high, s_0⟩, rfl, by rw [con_DBranch, con_DBranch]; simp only [e_0], ⟨o_low, o_high, ok_0⟩, News.mine (m_0.1) m_0.news⟩

theorem toHarbour_fn (c : DHarbour) (h : Hp) (hc : Enc.ok h c) (hb : Blk.blk c ≤ 1048576) : Ct Try.prog 52 [.agg #[.int .i64 c.forecast.tide.mean, c.forecast.tide.parts.val, c.forecast.surges.val, c.chart.points.val, c.chart.segments.val, c.fleet.val, .int .i64 c.regime.gap, .bool c.regime.noMeet, .int .i64 c.crew.tugs, .int .i64 c.crew.pilots, .int .i64 c.crew.rest, c.crew.moves.val]] h fun v h' => ∃ d : DHarbour, v = .agg #[.int .i64 d.forecast.tide.mean, d.forecast.tide.parts.val, d.forecast.surges.val, d.chart.points.val, d.chart.segments.val, d.fleet.val, .int .i64 d.regime.gap, .bool d.regime.noMeet, .int .i64 d.crew.tugs, .int .i64 d.crew.pilots, .int .i64 d.crew.rest, d.crew.moves.val] ∧ Con.con d = Con.con c ∧ Enc.ok h' d ∧ Mine h h' d := by
  rw [blk_DHarbour] at hb
  obtain ⟨o_forecast, o_chart, o_fleet, o_regime, o_crew⟩ := hc
  refine Ct_of_T (fun A W => by simp) Try.func52 rfl rfl (by simp) fun W0 => ?_
  repeat' first | refine T_seq_region rfl ?_ | refine T_region rfl ?_ | refine T_ret ?_ | refine T_block ?_ | refine T_skip ?_ | refine T_exit ?_ | (simp (maxSteps := 2000000) only [go_sem, Nat.reduceAdd, Nat.reduceMul, Nat.reduceBEq, Nat.reduceLeDiff, Nat.reduceLT, Nat.reduceEqDiff]; try rfl) | refine T_seq ?_ | (refine And.intro ?_ ?_; focus (intros; simp_all only [Bool.or_eq_false_iff, Bool.or_eq_true, Bool.and_eq_true, and_self, true_and, and_true]; done))
  refine vfn_at (toForecast_fn _ _ o_forecast (by omega)) rfl ?_
  rintro v h_0 le_0 ⟨s_0, rfl, e_0, ok_0, m_0⟩
  repeat' first | refine T_seq_region rfl ?_ | refine T_region rfl ?_ | refine T_ret ?_ | refine T_block ?_ | refine T_skip ?_ | refine T_exit ?_ | (simp (maxSteps := 2000000) only [go_sem, Nat.reduceAdd, Nat.reduceMul, Nat.reduceBEq, Nat.reduceLeDiff, Nat.reduceLT, Nat.reduceEqDiff]; try rfl) | refine T_seq ?_ | (refine And.intro ?_ ?_; focus (intros; simp_all only [Bool.or_eq_false_iff, Bool.or_eq_true, Bool.and_eq_true, and_self, true_and, and_true]; done))
  refine vfn_at (toChart_fn _ _ (Enc.mono le_0 o_chart) (by omega)) rfl ?_
  rintro v h_1 le_1 ⟨s_1, rfl, e_1, ok_1, m_1⟩
  repeat' first | refine T_seq_region rfl ?_ | refine T_region rfl ?_ | refine T_ret ?_ | refine T_block ?_ | refine T_skip ?_ | refine T_exit ?_ | (simp (maxSteps := 2000000) only [go_sem, Nat.reduceAdd, Nat.reduceMul, Nat.reduceBEq, Nat.reduceLeDiff, Nat.reduceLT, Nat.reduceEqDiff]; try rfl) | refine T_seq ?_ | (refine And.intro ?_ ?_; focus (intros; simp_all only [Bool.or_eq_false_iff, Bool.or_eq_true, Bool.and_eq_true, and_self, true_and, and_true]; done))
  refine vfn_at (toShipS_fn _ _ (o_fleet.mono (Hp.le_trans le_0 le_1)) (by omega)) rfl ?_
  rintro v h_2 le_2 ⟨s_2, rfl, e_2, ok_2, m_2⟩
  repeat' first | refine T_seq_region rfl ?_ | refine T_region rfl ?_ | refine T_ret ?_ | refine T_block ?_ | refine T_skip ?_ | refine T_exit ?_ | (simp (maxSteps := 2000000) only [go_sem, Nat.reduceAdd, Nat.reduceMul, Nat.reduceBEq, Nat.reduceLeDiff, Nat.reduceLT, Nat.reduceEqDiff]; try rfl) | refine T_seq ?_ | (refine And.intro ?_ ?_; focus (intros; simp_all only [Bool.or_eq_false_iff, Bool.or_eq_true, Bool.and_eq_true, and_self, true_and, and_true]; done))
  refine vfn_val (fun _ => toRegime_fn _ _) ?_
  repeat' first | refine T_seq_region rfl ?_ | refine T_region rfl ?_ | refine T_ret ?_ | refine T_block ?_ | refine T_skip ?_ | refine T_exit ?_ | (simp (maxSteps := 2000000) only [go_sem, Nat.reduceAdd, Nat.reduceMul, Nat.reduceBEq, Nat.reduceLeDiff, Nat.reduceLT, Nat.reduceEqDiff]; try rfl) | refine T_seq ?_ | (refine And.intro ?_ ?_; focus (intros; simp_all only [Bool.or_eq_false_iff, Bool.or_eq_true, Bool.and_eq_true, and_self, true_and, and_true]; done))
  refine vfn_at (toCrew_fn _ _ (Enc.mono (Hp.le_trans (Hp.le_trans le_0 le_1) le_2) o_crew) (by omega)) rfl ?_
  rintro v h_3 le_3 ⟨s_3, rfl, e_3, ok_3, m_3⟩
  repeat' first | refine T_seq_region rfl ?_ | refine T_region rfl ?_ | refine T_ret ?_ | refine T_block ?_ | refine T_skip ?_ | refine T_exit ?_ | (simp (maxSteps := 2000000) only [go_sem, Nat.reduceAdd, Nat.reduceMul, Nat.reduceBEq, Nat.reduceLeDiff, Nat.reduceLT, Nat.reduceEqDiff]; try rfl) | refine T_seq ?_ | (refine And.intro ?_ ?_; focus (intros; simp_all only [Bool.or_eq_false_iff, Bool.or_eq_true, Bool.and_eq_true, and_self, true_and, and_true]; done))
  exact ⟨⟨s_0, s_1, s_2, c.regime, s_3⟩, rfl, by rw [con_DHarbour, con_DHarbour]; simp only [e_0, e_1, e_2, e_3], ⟨Enc.mono (Hp.le_trans (Hp.le_trans le_1 le_2) le_3) ok_0, Enc.mono (Hp.le_trans le_2 le_3) ok_1, ok_2.mono le_3, o_regime, ok_3⟩, News.mine ⟨(Mine.on (Hp.le_trans (Hp.le_trans le_1 le_2) le_3) ok_0 m_0).1, (Mine.on (Hp.le_trans le_2 le_3) ok_1 m_1).1, (Mine.on le_3 ok_2 m_2).1, m_3.1⟩ (((m_0.news.append le_0 le_1 m_1.news).append (Hp.le_trans le_0 le_1) le_2 m_2.news).append (Hp.le_trans (Hp.le_trans le_0 le_1) le_2) le_3 m_3.news)⟩

theorem toBranchS_fn (a : Sl DBranch) (h : Hp) (ha : a.Ok h) (hb : Blk.blk a ≤ 1048576) : Ct Try.prog 70 [a.val] h fun v h' => ∃ s : Sl DBranch, v = s.val ∧ Con.con s = Con.con a ∧ s.Ok h' ∧ Mine h h' s := by
  have hl : a.l.length ≤ 1048576 := Nat.le_trans (Nat.le_add_right _ _) hb
  refine Ct_of_T (fun A W => by simp) Try.func70 rfl rfl (by simp) fun W0 => ?_
  repeat' first | refine T_seq_region rfl ?_ | refine T_region rfl ?_ | refine T_ret ?_ | refine T_block ?_ | refine T_skip ?_ | refine T_exit ?_ | (simp (maxSteps := 2000000) only [go_sem, Nat.reduceAdd, Nat.reduceMul, Nat.reduceBEq, Nat.reduceLeDiff, Nat.reduceLT, Nat.reduceEqDiff]; try rfl) | refine T_seq ?_ | (refine And.intro ?_ ?_; focus (intros; simp_all only [Bool.or_eq_false_iff, Bool.or_eq_true, Bool.and_eq_true, and_self, true_and, and_true]; done))
  refine ⟨by simp only [maxLen]; omega, by omega, ?_⟩
  repeat' first | refine T_seq_region rfl ?_ | refine T_region rfl ?_ | refine T_ret ?_ | refine T_block ?_ | refine T_skip ?_ | refine T_exit ?_ | (simp (maxSteps := 2000000) only [go_sem, Nat.reduceAdd, Nat.reduceMul, Nat.reduceBEq, Nat.reduceLeDiff, Nat.reduceLT, Nat.reduceEqDiff]; try rfl) | refine T_seq ?_ | (refine And.intro ?_ ?_; focus (intros; simp_all only [Bool.or_eq_false_iff, Bool.or_eq_true, Bool.and_eq_true, and_self, true_and, and_true]; done))
  refine T_loop (ι := Nat × List DBranch × Hp) (fun i => match i with | (k, ds, hk) => ⟨[(0, true, .c (.v a.val)), (3, true, .c (.s 0)), (4, true, .c (.v (.int .i64 k)))], [(0, .row 129 3 a.l.length (conv ds a.l.length [.int .i64 0, .int .i64 0, .slice none 0 0]))], hk, 1⟩) (fun i => i.1 ≤ a.l.length ∧ i.2.1.length = i.1 ∧ i.2.1.map Con.con = (Con.con a).take i.1 ∧ (∀ d ∈ i.2.1, Enc.ok i.2.2 d) ∧ h.le i.2.2 ∧ Mines h i.2.2 i.2.1) (fun i => a.l.length - i.1) (0, [], h) ⟨Nat.zero_le _, rfl, rfl, fun _ h => (by cases h), Hp.le_refl _, Mines.nil⟩ ?_ ?_
  · simp (maxSteps := 2000000) only [go_sem, Nat.reduceAdd, Nat.reduceMul, Nat.reduceBEq, Nat.reduceLeDiff, Nat.reduceLT, Nat.reduceEqDiff]
    exact ⟨rfl, row_ext (madeC (α := DBranch) (z := #[.int .i64 0, .int .i64 0, .slice none 0 0]) (by decide))⟩
  rintro ⟨k, ds, hk⟩ ⟨hi, hn, hm, ho, hle, hmi⟩
  simp only at hi hn hm ho hle hmi
  have ha' := ha.mono hle
  repeat' first | refine T_seq_region rfl ?_ | refine T_region rfl ?_ | refine T_ret ?_ | refine T_block ?_ | refine T_skip ?_ | refine T_exit ?_ | (simp (maxSteps := 2000000) only [go_sem, Nat.reduceAdd, Nat.reduceMul, Nat.reduceBEq, Nat.reduceLeDiff, Nat.reduceLT, Nat.reduceEqDiff]; try rfl) | refine T_seq ?_ | (refine And.intro ?_ ?_; focus (intros; simp_all only [Bool.or_eq_false_iff, Bool.or_eq_true, Bool.and_eq_true, and_self, true_and, and_true]; done))
  refine T_cond rfl (fun hd => ?_) (fun hd => ?_)
  · have hlt := lt_of_dec hd
    have hbk : Blk.blk a.l[k] ≤ 1048576 := by
      have h1 := mem_le_sum (List.mem_map_of_mem (f := Blk.blk) (List.getElem_mem hlt))
      rw [blk_sl] at hb; omega
    repeat' first | refine T_seq_region rfl ?_ | refine T_region rfl ?_ | refine T_ret ?_ | refine T_block ?_ | refine T_skip ?_ | refine T_exit ?_ | (simp (maxSteps := 2000000) only [go_sem, Nat.reduceAdd, Nat.reduceMul, Nat.reduceBEq, Nat.reduceLeDiff, Nat.reduceLT, Nat.reduceEqDiff, at_DBranch ha' hlt, ha.some hlt, hlt, Int.toNat_natCast]; try rfl) | refine T_seq ?_ | (refine And.intro ?_ ?_; focus (intros; simp_all only [Bool.or_eq_false_iff, Bool.or_eq_true, Bool.and_eq_true, and_self, true_and, and_true]; done))
    refine vfn_at (toBranch_fn _ _ (ha'.el hlt) hbk) rfl ?_
    rintro v h1 hle1 ⟨d, rfl, e1, e2, e3⟩
    repeat' first | refine T_seq_region rfl ?_ | refine T_region rfl ?_ | refine T_ret ?_ | refine T_block ?_ | refine T_skip ?_ | refine T_exit ?_ | (simp (maxSteps := 2000000) only [go_sem, Nat.reduceAdd, Nat.reduceMul, Nat.reduceBEq, Nat.reduceLeDiff, Nat.reduceLT, Nat.reduceEqDiff]; try rfl) | refine T_seq ?_ | (refine And.intro ?_ ?_; focus (intros; simp_all only [Bool.or_eq_false_iff, Bool.or_eq_true, Bool.and_eq_true, and_self, true_and, and_true]; done))
    refine ⟨?_, ?_⟩
    · rw [conv_len (by omega) rfl]; exact Nat.le_trans (Nat.le_of_eq (by simp only [Nat.add_mul])) (Nat.mul_le_mul_right 3 (show k + 1 ≤ a.l.length from hlt))
    repeat' first | refine T_seq_region rfl ?_ | refine T_region rfl ?_ | refine T_ret ?_ | refine T_block ?_ | refine T_skip ?_ | refine T_exit ?_ | (simp (maxSteps := 2000000) only [go_sem, Nat.reduceAdd, Nat.reduceMul, Nat.reduceBEq, Nat.reduceLeDiff, Nat.reduceLT, Nat.reduceEqDiff]; try rfl) | refine T_seq ?_ | (refine And.intro ?_ ?_; focus (intros; simp_all only [Bool.or_eq_false_iff, Bool.or_eq_true, Bool.and_eq_true, and_self, true_and, and_true]; done))
    refine ⟨(k + 1, ds ++ [d], h1), ⟨hlt, by simp [hn], ?_, ?_, Hp.le_trans hle hle1, hmi.snoc ho hle1 hle e3⟩, by simp only; omega, ?_⟩
    · have gA : (Con.con a)[k]'(by rw [con_sl, List.length_map]; exact hlt) = Con.con a.l[k] := List.getElem_map ..
      rw [List.map_append, hm, List.take_succ_eq_append_getElem (by rw [con_sl, List.length_map]; exact hlt), gA, ← e1]; rfl
    · intro x hx
      rcases List.mem_append.1 hx with hx | hx
      · exact Enc.mono hle1 (ho x hx)
      · rw [List.mem_singleton.1 hx]; exact e2
    · simp (maxSteps := 2000000) only [go_sem, Nat.reduceAdd, Nat.reduceMul, Nat.reduceBEq, Nat.reduceLeDiff, Nat.reduceLT, Nat.reduceEqDiff]
      exact ⟨svInt (wrapS hlt (by omega)), row_ext (conv_next hn hlt rfl)⟩
  · have hge := ge_of_dec hd
    have hke : k = a.l.length := Nat.le_antisymm hi hge
    refine T_exit ?_
    simp (maxSteps := 2000000) only [go_sem, Nat.reduceAdd, Nat.reduceMul, Nat.reduceBEq, Nat.reduceLeDiff, Nat.reduceLT, Nat.reduceEqDiff]
    refine T_pubM 0 ds rfl rfl (by omega) (conv_all (by omega)) (by decide) ho h hle hmi fun s h' e1 e2 e3 e4 => ?_
    repeat' first | refine T_seq_region rfl ?_ | refine T_region rfl ?_ | refine T_ret ?_ | refine T_block ?_ | refine T_skip ?_ | refine T_exit ?_ | (simp (maxSteps := 2000000) only [go_sem, Nat.reduceAdd, Nat.reduceMul, Nat.reduceBEq, Nat.reduceLeDiff, Nat.reduceLT, Nat.reduceEqDiff]; try rfl) | refine T_seq ?_ | (refine And.intro ?_ ?_; focus (intros; simp_all only [Bool.or_eq_false_iff, Bool.or_eq_true, Bool.and_eq_true, and_self, true_and, and_true]; done))
    exact ⟨s, rfl, by rw [con_sl, e1, hm, hke, List.take_of_length_le (by rw [con_sl, List.length_map]; exact Nat.le_refl _)], e2, e4⟩

theorem toStrategy_fn (c : DStrategy) (h : Hp) (hc : Enc.ok h c) (hb : Blk.blk c ≤ 1048576) : Ct Try.prog 23 [.agg #[.int .i64 c.minute, c.branches.val]] h fun v h' => ∃ d : DStrategy, v = .agg #[.int .i64 d.minute, d.branches.val] ∧ Con.con d = Con.con c ∧ Enc.ok h' d ∧ Mine h h' d := by
  rw [blk_DStrategy] at hb
  obtain ⟨o_minute, o_branches⟩ := hc
  refine Ct_of_T (fun A W => by simp) Try.func23 rfl rfl (by simp) fun W0 => ?_
  repeat' first | refine T_seq_region rfl ?_ | refine T_region rfl ?_ | refine T_ret ?_ | refine T_block ?_ | refine T_skip ?_ | refine T_exit ?_ | (simp (maxSteps := 2000000) only [go_sem, Nat.reduceAdd, Nat.reduceMul, Nat.reduceBEq, Nat.reduceLeDiff, Nat.reduceLT, Nat.reduceEqDiff]; try rfl) | refine T_seq ?_ | (refine And.intro ?_ ?_; focus (intros; simp_all only [Bool.or_eq_false_iff, Bool.or_eq_true, Bool.and_eq_true, and_self, true_and, and_true]; done))
  refine vfn_at (toBranchS_fn _ _ o_branches (by omega)) rfl ?_
  rintro v h_0 le_0 ⟨s_0, rfl, e_0, ok_0, m_0⟩
  repeat' first | refine T_seq_region rfl ?_ | refine T_region rfl ?_ | refine T_ret ?_ | refine T_block ?_ | refine T_skip ?_ | refine T_exit ?_ | (simp (maxSteps := 2000000) only [go_sem, Nat.reduceAdd, Nat.reduceMul, Nat.reduceBEq, Nat.reduceLeDiff, Nat.reduceLT, Nat.reduceEqDiff]; try rfl) | refine T_seq ?_ | (refine And.intro ?_ ?_; focus (intros; simp_all only [Bool.or_eq_false_iff, Bool.or_eq_true, Bool.and_eq_true, and_self, true_and, and_true]; done))
  exact ⟨⟨c.minute, s_0⟩, rfl, by rw [con_DStrategy, con_DStrategy]; simp only [e_0], ⟨o_minute, ok_0⟩, News.mine (m_0.1) m_0.news⟩
end Go.Proofs.Ytfbdafdbinbeaaa
