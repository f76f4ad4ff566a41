/- What functions of the given program compute, each as a contract over what its arguments read as. No condition beside those that each theorem states. -/
import Derived.Test.YtkoghfeelonhhaaTy
import Derived.Test.YtkoghfeelonhhaaSLO
set_option linter.unusedVariables false
set_option linter.unusedSimpArgs false
namespace Go.Proofs.Ytkoghfeelonhhaa
open Go Go.SL
set_option maxHeartbeats 1000000
theorem toCall_fn (c : DCall) (h : Hp) : Ct Try.prog 67 [.agg #[.int .i64 c.ship, .int .i64 c.src, .int .i64 c.dst, .int .i64 c.ready, .int .i64 c.due]] h fun v h' => v = .agg #[.int .i64 c.ship, .int .i64 c.src, .int .i64 c.dst, .int .i64 c.ready, .int .i64 c.due] ∧ h' = h := by
  refine Ct_of_T (fun A W => by simp) Try.func67 rfl rfl (by simp) fun W0 => ?_
  repeat' first | refine T_seq_region rfl ?_ | refine T_region rfl ?_ | refine T_ret ?_ | refine T_block ?_ | refine T_skip ?_ | refine T_exit ?_ | (simp only [go_sem, Nat.reduceAdd, Nat.reduceBEq, Nat.reduceLeDiff, Nat.reduceLT, Nat.reduceEqDiff]; try rfl) | refine T_seq ?_

theorem toIntS_fn (a : Sl Int) (h : Hp) (ha : a.Ok h) (hb : Blk.blk a ≤ 1048576) : Ct Try.prog 22 [a.val] h fun v h' => ∃ s : Sl Int, v = s.val ∧ Con.con s = Con.con a ∧ s.Ok h' ∧ Mine h h' s := by
  have hl : a.l.length ≤ 1048576 := Nat.le_trans (Nat.le_add_right _ _) hb
  refine Ct_of_T (fun A W => by simp) Try.func22 rfl rfl (by simp) fun W0 => ?_
  repeat' first | refine T_seq_region rfl ?_ | refine T_region rfl ?_ | refine T_ret ?_ | refine T_block ?_ | refine T_skip ?_ | refine T_exit ?_ | (simp only [go_sem, Nat.reduceAdd, Nat.reduceBEq, Nat.reduceLeDiff, Nat.reduceLT, Nat.reduceEqDiff]; try rfl) | refine T_seq ?_
  refine ⟨by simp only [maxLen]; omega, by omega, ?_⟩
  repeat' first | refine T_seq_region rfl ?_ | refine T_region rfl ?_ | refine T_ret ?_ | refine T_block ?_ | refine T_skip ?_ | refine T_exit ?_ | (simp only [go_sem, Nat.reduceAdd, Nat.reduceBEq, Nat.reduceLeDiff, Nat.reduceLT, Nat.reduceEqDiff]; try rfl) | refine T_seq ?_
  refine T_loop (ι := Nat) (fun k => ⟨[(0, true, .c (.v a.val)), (3, true, .c (.s 0)), (4, true, .c (.v (.int .i64 k)))], [(0, .row 3 1 a.l.length (conv (a.l.take k) a.l.length [.int .i64 0]))], h, 1⟩) (fun k => k ≤ a.l.length) (fun k => a.l.length - k) 0 (Nat.zero_le _) ?_ ?_
  · simp only [go_sem, Nat.reduceAdd, Nat.reduceBEq, Nat.reduceLeDiff, Nat.reduceLT, Nat.reduceEqDiff]
    exact ⟨rfl, row_ext (madeC (α := Int) (z := #[.int .i64 0]) (by decide))⟩
  intro k hk
  repeat' first | refine T_seq_region rfl ?_ | refine T_region rfl ?_ | refine T_ret ?_ | refine T_block ?_ | refine T_skip ?_ | refine T_exit ?_ | (simp only [go_sem, Nat.reduceAdd, Nat.reduceBEq, Nat.reduceLeDiff, Nat.reduceLT, Nat.reduceEqDiff]; try rfl) | refine T_seq ?_
  refine T_cond rfl (fun hd => ?_) (fun hd => ?_)
  · have hlt := lt_of_dec hd
    have hle : (a.l.take k).length = k := by rw [List.length_take]; omega
    repeat' first | refine T_seq_region rfl ?_ | refine T_region rfl ?_ | refine T_ret ?_ | refine T_block ?_ | refine T_skip ?_ | refine T_exit ?_ | (simp only [go_sem, Nat.reduceAdd, Nat.reduceBEq, Nat.reduceLeDiff, Nat.reduceLT, Nat.reduceEqDiff, at_Int ha hlt, ha.some hlt, hlt, Int.toNat_natCast]; try rfl) | refine T_seq ?_
    refine ⟨?_, ?_⟩
    · rw [conv_len (by omega) rfl]; exact Nat.le_trans (Nat.le_of_eq (by simp only [Nat.add_mul])) (Nat.mul_le_mul_right 1 (show k + 1 ≤ a.l.length from hlt))
    repeat' first | refine T_seq_region rfl ?_ | refine T_region rfl ?_ | refine T_ret ?_ | refine T_block ?_ | refine T_skip ?_ | refine T_exit ?_ | (simp only [go_sem, Nat.reduceAdd, Nat.reduceBEq, Nat.reduceLeDiff, Nat.reduceLT, Nat.reduceEqDiff]; try rfl) | refine T_seq ?_
    exact ⟨k + 1, hlt, by omega, svInt (wrapS hlt (by omega)), row_ext (by rw [List.take_succ_eq_append_getElem hlt]; exact conv_next hle hlt rfl)⟩
  · have hge := ge_of_dec hd
    refine T_exit ?_
    simp only [go_sem, Nat.reduceAdd, Nat.reduceBEq, Nat.reduceLeDiff, Nat.reduceLT, Nat.reduceEqDiff]
    refine T_pubM 0 a.l rfl rfl rfl (by rw [List.take_of_length_le hge]; exact conv_all (Nat.le_refl _)) (by decide) (fun x hx => by obtain ⟨i, hi, rfl⟩ := List.getElem_of_mem hx; exact ha.el hi) h (Hp.le_refl _) (Mines.flat (fun _ => rfl) (fun _ => trivial)) fun s h' e1 e2 e3 e4 => ?_
    repeat' first | refine T_seq_region rfl ?_ | refine T_region rfl ?_ | refine T_ret ?_ | refine T_block ?_ | refine T_skip ?_ | refine T_exit ?_ | (simp only [go_sem, Nat.reduceAdd, Nat.reduceBEq, Nat.reduceLeDiff, Nat.reduceLT, Nat.reduceEqDiff]; try rfl) | refine T_seq ?_
    exact ⟨s, rfl, by rw [con_sl, con_sl, e1], e2, e4⟩

theorem toPassage_fn (c : DPassage) (h : Hp) : Ct Try.prog 78 [.agg #[.int .i64 c.ship, .int .i64 c.seg, .bool c.toward, .int .i64 c.start, .int .i64 c.fin]] h fun v h' => v = .agg #[.int .i64 c.ship, .int .i64 c.seg, .bool c.toward, .int .i64 c.start, .int .i64 c.fin] ∧ h' = h := by
  refine Ct_of_T (fun A W => by simp) Try.func78 rfl rfl (by simp) fun W0 => ?_
  repeat' first | refine T_seq_region rfl ?_ | refine T_region rfl ?_ | refine T_ret ?_ | refine T_block ?_ | refine T_skip ?_ | refine T_exit ?_ | (simp only [go_sem, Nat.reduceAdd, Nat.reduceBEq, Nat.reduceLeDiff, Nat.reduceLT, Nat.reduceEqDiff]; try rfl) | refine T_seq ?_

theorem toCallS_fn (a : Sl DCall) (h : Hp) (ha : a.Ok h) (hb : Blk.blk a ≤ 1048576) : Ct Try.prog 21 [a.val] h fun v h' => ∃ s : Sl DCall, v = s.val ∧ Con.con s = Con.con a ∧ s.Ok h' ∧ Mine h h' s := by
  have hl : a.l.length ≤ 1048576 := Nat.le_trans (Nat.le_add_right _ _) hb
  refine Ct_of_T (fun A W => by simp) Try.func21 rfl rfl (by simp) fun W0 => ?_
  repeat' first | refine T_seq_region rfl ?_ | refine T_region rfl ?_ | refine T_ret ?_ | refine T_block ?_ | refine T_skip ?_ | refine T_exit ?_ | (simp only [go_sem, Nat.reduceAdd, Nat.reduceBEq, Nat.reduceLeDiff, Nat.reduceLT, Nat.reduceEqDiff]; try rfl) | refine T_seq ?_
  refine ⟨by simp only [maxLen]; omega, by omega, ?_⟩
  repeat' first | refine T_seq_region rfl ?_ | refine T_region rfl ?_ | refine T_ret ?_ | refine T_block ?_ | refine T_skip ?_ | refine T_exit ?_ | (simp only [go_sem, Nat.reduceAdd, Nat.reduceBEq, Nat.reduceLeDiff, Nat.reduceLT, Nat.reduceEqDiff]; try rfl) | refine T_seq ?_
  refine T_loop (ι := Nat) (fun k => ⟨[(0, true, .c (.v a.val)), (3, true, .c (.s 0)), (4, true, .c (.v (.int .i64 k)))], [(0, .row 78 5 a.l.length (conv (a.l.take k) a.l.length [.int .i64 0, .int .i64 0, .int .i64 0, .int .i64 0, .int .i64 0]))], h, 1⟩) (fun k => k ≤ a.l.length) (fun k => a.l.length - k) 0 (Nat.zero_le _) ?_ ?_
  · simp only [go_sem, Nat.reduceAdd, Nat.reduceBEq, Nat.reduceLeDiff, Nat.reduceLT, Nat.reduceEqDiff]
    exact ⟨rfl, row_ext (madeC (α := DCall) (z := #[.int .i64 0, .int .i64 0, .int .i64 0, .int .i64 0, .int .i64 0]) (by decide))⟩
  intro k hk
  repeat' first | refine T_seq_region rfl ?_ | refine T_region rfl ?_ | refine T_ret ?_ | refine T_block ?_ | refine T_skip ?_ | refine T_exit ?_ | (simp only [go_sem, Nat.reduceAdd, Nat.reduceBEq, Nat.reduceLeDiff, Nat.reduceLT, Nat.reduceEqDiff]; try rfl) | refine T_seq ?_
  refine T_cond rfl (fun hd => ?_) (fun hd => ?_)
  · have hlt := lt_of_dec hd
    have hle : (a.l.take k).length = k := by rw [List.length_take]; omega
    repeat' first | refine T_seq_region rfl ?_ | refine T_region rfl ?_ | refine T_ret ?_ | refine T_block ?_ | refine T_skip ?_ | refine T_exit ?_ | refine vfn_val (fun _ => toCall_fn _ _) ?_ | (simp only [go_sem, Nat.reduceAdd, Nat.reduceBEq, Nat.reduceLeDiff, Nat.reduceLT, Nat.reduceEqDiff, at_DCall ha hlt, ha.some hlt, hlt, Int.toNat_natCast]; try rfl) | refine T_seq ?_
    refine ⟨?_, ?_⟩
    · rw [conv_len (by omega) rfl]; exact Nat.le_trans (Nat.le_of_eq (by simp only [Nat.add_mul])) (Nat.mul_le_mul_right 5 (show k + 1 ≤ a.l.length from hlt))
    repeat' first | refine T_seq_region rfl ?_ | refine T_region rfl ?_ | refine T_ret ?_ | refine T_block ?_ | refine T_skip ?_ | refine T_exit ?_ | (simp only [go_sem, Nat.reduceAdd, Nat.reduceBEq, Nat.reduceLeDiff, Nat.reduceLT, Nat.reduceEqDiff]; try rfl) | refine T_seq ?_
    exact ⟨k + 1, hlt, by omega, svInt (wrapS hlt (by omega)), row_ext (by rw [List.take_succ_eq_append_getElem hlt]; exact conv_next hle hlt rfl)⟩
  · have hge := ge_of_dec hd
    refine T_exit ?_
    simp only [go_sem, Nat.reduceAdd, Nat.reduceBEq, Nat.reduceLeDiff, Nat.reduceLT, Nat.reduceEqDiff]
    refine T_pubM 0 a.l rfl rfl rfl (by rw [List.take_of_length_le hge]; exact conv_all (Nat.le_refl _)) (by decide) (fun x hx => by obtain ⟨i, hi, rfl⟩ := List.getElem_of_mem hx; exact ha.el hi) h (Hp.le_refl _) (Mines.flat (fun _ => rfl) (fun _ => trivial)) fun s h' e1 e2 e3 e4 => ?_
    repeat' first | refine T_seq_region rfl ?_ | refine T_region rfl ?_ | refine T_ret ?_ | refine T_block ?_ | refine T_skip ?_ | refine T_exit ?_ | (simp only [go_sem, Nat.reduceAdd, Nat.reduceBEq, Nat.reduceLeDiff, Nat.reduceLT, Nat.reduceEqDiff]; try rfl) | refine T_seq ?_
    exact ⟨s, rfl, by rw [con_sl, con_sl, e1], e2, e4⟩

theorem toCrew_fn (c : DCrew) (h : Hp) (hc : Enc.ok h c) (hb : Blk.blk c ≤ 1048576) : Ct Try.prog 16 [.agg #[.int .i64 c.tugs, .int .i64 c.pilots, .int .i64 c.rest, c.moves.val]] h fun v h' => ∃ d : DCrew, v = .agg #[.int .i64 d.tugs, .int .i64 d.pilots, .int .i64 d.rest, d.moves.val] ∧ Con.con d = Con.con c ∧ Enc.ok h' d ∧ Mine h h' d := by
  rw [blk_DCrew] at hb
  obtain ⟨o_tugs, o_pilots, o_rest, o_moves⟩ := hc
  refine Ct_of_T (fun A W => by simp) Try.func16 rfl rfl (by simp) fun W0 => ?_
  repeat' first | refine T_seq_region rfl ?_ | refine T_region rfl ?_ | refine T_ret ?_ | refine T_block ?_ | refine T_skip ?_ | refine T_exit ?_ | (simp only [go_sem, Nat.reduceAdd, Nat.reduceBEq, Nat.reduceLeDiff, Nat.reduceLT, Nat.reduceEqDiff]; try rfl) | refine T_seq ?_
  refine vfn_at (toIntS_fn _ _ o_moves (by omega)) rfl ?_
  rintro v h_0 le_0 ⟨s_0, rfl, e_0, ok_0, m_0⟩
  repeat' first | refine T_seq_region rfl ?_ | refine T_region rfl ?_ | refine T_ret ?_ | refine T_block ?_ | refine T_skip ?_ | refine T_exit ?_ | (simp only [go_sem, Nat.reduceAdd, Nat.reduceBEq, Nat.reduceLeDiff, Nat.reduceLT, Nat.reduceEqDiff]; try rfl) | refine T_seq ?_
  exact ⟨⟨c.tugs, c.pilots, c.rest, s_0⟩, rfl, by rw [con_DCrew, con_DCrew]; simp only [e_0], ⟨o_tugs, o_pilots, o_rest, ok_0⟩, News.mine (m_0.1) m_0.news⟩

theorem toPassageS_fn (a : Sl DPassage) (h : Hp) (ha : a.Ok h) (hb : Blk.blk a ≤ 1048576) : Ct Try.prog 71 [a.val] h fun v h' => ∃ s : Sl DPassage, v = s.val ∧ Con.con s = Con.con a ∧ s.Ok h' ∧ Mine h h' s := by
  have hl : a.l.length ≤ 1048576 := Nat.le_trans (Nat.le_add_right _ _) hb
  refine Ct_of_T (fun A W => by simp) Try.func71 rfl rfl (by simp) fun W0 => ?_
  repeat' first | refine T_seq_region rfl ?_ | refine T_region rfl ?_ | refine T_ret ?_ | refine T_block ?_ | refine T_skip ?_ | refine T_exit ?_ | (simp only [go_sem, Nat.reduceAdd, Nat.reduceBEq, Nat.reduceLeDiff, Nat.reduceLT, Nat.reduceEqDiff]; try rfl) | refine T_seq ?_
  refine ⟨by simp only [maxLen]; omega, by omega, ?_⟩
  repeat' first | refine T_seq_region rfl ?_ | refine T_region rfl ?_ | refine T_ret ?_ | refine T_block ?_ | refine T_skip ?_ | refine T_exit ?_ | (simp only [go_sem, Nat.reduceAdd, Nat.reduceBEq, Nat.reduceLeDiff, Nat.reduceLT, Nat.reduceEqDiff]; try rfl) | refine T_seq ?_
  refine T_loop (ι := Nat) (fun k => ⟨[(0, true, .c (.v a.val)), (3, true, .c (.s 0)), (4, true, .c (.v (.int .i64 k)))], [(0, .row 85 5 a.l.length (conv (a.l.take k) a.l.length [.int .i64 0, .int .i64 0, .bool false, .int .i64 0, .int .i64 0]))], h, 1⟩) (fun k => k ≤ a.l.length) (fun k => a.l.length - k) 0 (Nat.zero_le _) ?_ ?_
  · simp only [go_sem, Nat.reduceAdd, Nat.reduceBEq, Nat.reduceLeDiff, Nat.reduceLT, Nat.reduceEqDiff]
    exact ⟨rfl, row_ext (madeC (α := DPassage) (z := #[.int .i64 0, .int .i64 0, .bool false, .int .i64 0, .int .i64 0]) (by decide))⟩
  intro k hk
  repeat' first | refine T_seq_region rfl ?_ | refine T_region rfl ?_ | refine T_ret ?_ | refine T_block ?_ | refine T_skip ?_ | refine T_exit ?_ | (simp only [go_sem, Nat.reduceAdd, Nat.reduceBEq, Nat.reduceLeDiff, Nat.reduceLT, Nat.reduceEqDiff]; try rfl) | refine T_seq ?_
  refine T_cond rfl (fun hd => ?_) (fun hd => ?_)
  · have hlt := lt_of_dec hd
    have hle : (a.l.take k).length = k := by rw [List.length_take]; omega
    repeat' first | refine T_seq_region rfl ?_ | refine T_region rfl ?_ | refine T_ret ?_ | refine T_block ?_ | refine T_skip ?_ | refine T_exit ?_ | refine vfn_val (fun _ => toPassage_fn _ _) ?_ | (simp only [go_sem, Nat.reduceAdd, Nat.reduceBEq, Nat.reduceLeDiff, Nat.reduceLT, Nat.reduceEqDiff, at_DPassage ha hlt, ha.some hlt, hlt, Int.toNat_natCast]; try rfl) | refine T_seq ?_
    refine ⟨?_, ?_⟩
    · rw [conv_len (by omega) rfl]; exact Nat.le_trans (Nat.le_of_eq (by simp only [Nat.add_mul])) (Nat.mul_le_mul_right 5 (show k + 1 ≤ a.l.length from hlt))
    repeat' first | refine T_seq_region rfl ?_ | refine T_region rfl ?_ | refine T_ret ?_ | refine T_block ?_ | refine T_skip ?_ | refine T_exit ?_ | (simp only [go_sem, Nat.reduceAdd, Nat.reduceBEq, Nat.reduceLeDiff, Nat.reduceLT, Nat.reduceEqDiff]; try rfl) | refine T_seq ?_
    exact ⟨k + 1, hlt, by omega, svInt (wrapS hlt (by omega)), row_ext (by rw [List.take_succ_eq_append_getElem hlt]; exact conv_next hle hlt rfl)⟩
  · have hge := ge_of_dec hd
    refine T_exit ?_
    simp only [go_sem, Nat.reduceAdd, Nat.reduceBEq, Nat.reduceLeDiff, Nat.reduceLT, Nat.reduceEqDiff]
    refine T_pubM 0 a.l rfl rfl rfl (by rw [List.take_of_length_le hge]; exact conv_all (Nat.le_refl _)) (by decide) (fun x hx => by obtain ⟨i, hi, rfl⟩ := List.getElem_of_mem hx; exact ha.el hi) h (Hp.le_refl _) (Mines.flat (fun _ => rfl) (fun _ => trivial)) fun s h' e1 e2 e3 e4 => ?_
    repeat' first | refine T_seq_region rfl ?_ | refine T_region rfl ?_ | refine T_ret ?_ | refine T_block ?_ | refine T_skip ?_ | refine T_exit ?_ | (simp only [go_sem, Nat.reduceAdd, Nat.reduceBEq, Nat.reduceLeDiff, Nat.reduceLT, Nat.reduceEqDiff]; try rfl) | refine T_seq ?_
    exact ⟨s, rfl, by rw [con_sl, con_sl, e1], e2, e4⟩

theorem toOption_fn (c : DOption) (h : Hp) (hc : Enc.ok h c) (hb : Blk.blk c ≤ 1048576) : Ct Try.prog 28 [.agg #[.int .i64 c.start, .int .i64 c.arr, .int .i64 c.cost, c.pas.val]] h fun v h' => ∃ d : DOption, v = .agg #[.int .i64 d.start, .int .i64 d.arr, .int .i64 d.cost, d.pas.val] ∧ Con.con d = Con.con c ∧ Enc.ok h' d ∧ Mine h h' d := by
  rw [blk_DOption] at hb
  obtain ⟨o_start, o_arr, o_cost, o_pas⟩ := hc
  refine Ct_of_T (fun A W => by simp) Try.func28 rfl rfl (by simp) fun W0 => ?_
  repeat' first | refine T_seq_region rfl ?_ | refine T_region rfl ?_ | refine T_ret ?_ | refine T_block ?_ | refine T_skip ?_ | refine T_exit ?_ | (simp only [go_sem, Nat.reduceAdd, Nat.reduceBEq, Nat.reduceLeDiff, Nat.reduceLT, Nat.reduceEqDiff]; try rfl) | refine T_seq ?_
  refine vfn_at (toPassageS_fn _ _ o_pas (by omega)) rfl ?_
  rintro v h_0 le_0 ⟨s_0, rfl, e_0, ok_0, m_0⟩
  repeat' first | refine T_seq_region rfl ?_ | refine T_region rfl ?_ | refine T_ret ?_ | refine T_block ?_ | refine T_skip ?_ | refine T_exit ?_ | (simp only [go_sem, Nat.reduceAdd, Nat.reduceBEq, Nat.reduceLeDiff, Nat.reduceLT, Nat.reduceEqDiff]; try rfl) | refine T_seq ?_
  exact ⟨⟨c.start, c.arr, c.cost, s_0⟩, rfl, by rw [con_DOption, con_DOption]; simp only [e_0], ⟨o_start, o_arr, o_cost, ok_0⟩, News.mine (m_0.1) m_0.news⟩

theorem toOptionS_fn (a : Sl DOption) (h : Hp) (ha : a.Ok h) (hb : Blk.blk a ≤ 1048576) : Ct Try.prog 35 [a.val] h fun v h' => ∃ s : Sl DOption, v = s.val ∧ Con.con s = Con.con a ∧ s.Ok h' ∧ Mine h h' s := by
  have hl : a.l.length ≤ 1048576 := Nat.le_trans (Nat.le_add_right _ _) hb
  refine Ct_of_T (fun A W => by simp) Try.func35 rfl rfl (by simp) fun W0 => ?_
  repeat' first | refine T_seq_region rfl ?_ | refine T_region rfl ?_ | refine T_ret ?_ | refine T_block ?_ | refine T_skip ?_ | refine T_exit ?_ | (simp only [go_sem, Nat.reduceAdd, Nat.reduceBEq, Nat.reduceLeDiff, Nat.reduceLT, Nat.reduceEqDiff]; try rfl) | refine T_seq ?_
  refine ⟨by simp only [maxLen]; omega, by omega, ?_⟩
  repeat' first | refine T_seq_region rfl ?_ | refine T_region rfl ?_ | refine T_ret ?_ | refine T_block ?_ | refine T_skip ?_ | refine T_exit ?_ | (simp only [go_sem, Nat.reduceAdd, Nat.reduceBEq, Nat.reduceLeDiff, Nat.reduceLT, Nat.reduceEqDiff]; try rfl) | refine T_seq ?_
  refine T_loop (ι := Nat × List DOption × Hp) (fun i => match i with | (k, ds, hk) => ⟨[(0, true, .c (.v a.val)), (3, true, .c (.s 0)), (4, true, .c (.v (.int .i64 k)))], [(0, .row 47 4 a.l.length (conv ds a.l.length [.int .i64 0, .int .i64 0, .int .i64 0, .slice none 0 0]))], hk, 1⟩) (fun i => i.1 ≤ a.l.length ∧ i.2.1.length = i.1 ∧ i.2.1.map Con.con = (Con.con a).take i.1 ∧ (∀ d ∈ i.2.1, Enc.ok i.2.2 d) ∧ h.le i.2.2 ∧ Mines h i.2.2 i.2.1) (fun i => a.l.length - i.1) (0, [], h) ⟨Nat.zero_le _, rfl, rfl, fun _ h => (by cases h), Hp.le_refl _, Mines.nil⟩ ?_ ?_
  · simp only [go_sem, Nat.reduceAdd, Nat.reduceBEq, Nat.reduceLeDiff, Nat.reduceLT, Nat.reduceEqDiff]
    exact ⟨rfl, row_ext (madeC (α := DOption) (z := #[.int .i64 0, .int .i64 0, .int .i64 0, .slice none 0 0]) (by decide))⟩
  rintro ⟨k, ds, hk⟩ ⟨hi, hn, hm, ho, hle, hmi⟩
  simp only at hi hn hm ho hle hmi
  have ha' := ha.mono hle
  repeat' first | refine T_seq_region rfl ?_ | refine T_region rfl ?_ | refine T_ret ?_ | refine T_block ?_ | refine T_skip ?_ | refine T_exit ?_ | (simp only [go_sem, Nat.reduceAdd, Nat.reduceBEq, Nat.reduceLeDiff, Nat.reduceLT, Nat.reduceEqDiff]; try rfl) | refine T_seq ?_
  refine T_cond rfl (fun hd => ?_) (fun hd => ?_)
  · have hlt := lt_of_dec hd
    have hbk : Blk.blk a.l[k] ≤ 1048576 := by
      have h1 := mem_le_sum (List.mem_map_of_mem (f := Blk.blk) (List.getElem_mem hlt))
      rw [blk_sl] at hb; omega
    repeat' first | refine T_seq_region rfl ?_ | refine T_region rfl ?_ | refine T_ret ?_ | refine T_block ?_ | refine T_skip ?_ | refine T_exit ?_ | (simp only [go_sem, Nat.reduceAdd, Nat.reduceBEq, Nat.reduceLeDiff, Nat.reduceLT, Nat.reduceEqDiff, at_DOption ha' hlt, ha.some hlt, hlt, Int.toNat_natCast]; try rfl) | refine T_seq ?_
    refine vfn_at (toOption_fn _ _ (ha'.el hlt) hbk) rfl ?_
    rintro v h1 hle1 ⟨d, rfl, e1, e2, e3⟩
    repeat' first | refine T_seq_region rfl ?_ | refine T_region rfl ?_ | refine T_ret ?_ | refine T_block ?_ | refine T_skip ?_ | refine T_exit ?_ | (simp only [go_sem, Nat.reduceAdd, Nat.reduceBEq, Nat.reduceLeDiff, Nat.reduceLT, Nat.reduceEqDiff]; try rfl) | refine T_seq ?_
    refine ⟨?_, ?_⟩
    · rw [conv_len (by omega) rfl]; exact Nat.le_trans (Nat.le_of_eq (by simp only [Nat.add_mul])) (Nat.mul_le_mul_right 4 (show k + 1 ≤ a.l.length from hlt))
    repeat' first | refine T_seq_region rfl ?_ | refine T_region rfl ?_ | refine T_ret ?_ | refine T_block ?_ | refine T_skip ?_ | refine T_exit ?_ | (simp only [go_sem, Nat.reduceAdd, Nat.reduceBEq, Nat.reduceLeDiff, Nat.reduceLT, Nat.reduceEqDiff]; try rfl) | refine T_seq ?_
    refine ⟨(k + 1, ds ++ [d], h1), ⟨hlt, by simp [hn], ?_, ?_, Hp.le_trans hle hle1, hmi.snoc ho hle1 hle e3⟩, by simp only; omega, ?_⟩
    · have gA : (Con.con a)[k]'(by rw [con_sl, List.length_map]; exact hlt) = Con.con a.l[k] := List.getElem_map ..
      rw [List.map_append, hm, List.take_succ_eq_append_getElem (by rw [con_sl, List.length_map]; exact hlt), gA, ← e1]; rfl
    · intro x hx
      rcases List.mem_append.1 hx with hx | hx
      · exact Enc.mono hle1 (ho x hx)
      · rw [List.mem_singleton.1 hx]; exact e2
    · simp only [go_sem, Nat.reduceAdd, Nat.reduceBEq, Nat.reduceLeDiff, Nat.reduceLT, Nat.reduceEqDiff]
      exact ⟨svInt (wrapS hlt (by omega)), row_ext (conv_next hn hlt rfl)⟩
  · have hge := ge_of_dec hd
    have hke : k = a.l.length := Nat.le_antisymm hi hge
    refine T_exit ?_
    simp only [go_sem, Nat.reduceAdd, Nat.reduceBEq, Nat.reduceLeDiff, Nat.reduceLT, Nat.reduceEqDiff]
    refine T_pubM 0 ds rfl rfl (by omega) (conv_all (by omega)) (by decide) ho h hle hmi fun s h' e1 e2 e3 e4 => ?_
    repeat' first | refine T_seq_region rfl ?_ | refine T_region rfl ?_ | refine T_ret ?_ | refine T_block ?_ | refine T_skip ?_ | refine T_exit ?_ | (simp only [go_sem, Nat.reduceAdd, Nat.reduceBEq, Nat.reduceLeDiff, Nat.reduceLT, Nat.reduceEqDiff]; try rfl) | refine T_seq ?_
    exact ⟨s, rfl, by rw [con_sl, e1, hm, hke, List.take_of_length_le (by rw [con_sl, List.length_map]; exact Nat.le_refl _)], e2, e4⟩
end Go.Proofs.Ytkoghfeelonhhaa
