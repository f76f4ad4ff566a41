/- What functions of the given program compute, each as a contract over what its arguments read as. No condition beside those that each theorem states. -/
import Derived.Test.YtkoghfeelonhhaaTy
set_option linter.unusedVariables false
set_option linter.unusedSimpArgs false
namespace Go.Proofs.Ytkoghfeelonhhaa
open Go Go.SL
set_option maxHeartbeats 1000000
theorem eqCall_fn (c d : DCall) (h : Hp) (hc : Enc.ok h c) (hd : Enc.ok h d) : Ct Try.prog 69 [.agg #[.int .i64 c.ship, .int .i64 c.src, .int .i64 c.dst, .int .i64 c.ready, .int .i64 c.due], .agg #[.int .i64 d.ship, .int .i64 d.src, .int .i64 d.dst, .int .i64 d.ready, .int .i64 d.due]] h fun v h' => v = .bool (decide (Con.con c = Con.con d)) ∧ h' = h := by
  obtain ⟨oc_ship, oc_src, oc_dst, oc_ready, oc_due⟩ := hc
  obtain ⟨od_ship, od_src, od_dst, od_ready, od_due⟩ := hd
  refine Ct_of_T (fun A W => by simp) Try.func69 rfl rfl (by simp) fun W0 => ?_
  repeat' first | refine T_seq_region rfl ?_ | refine T_region rfl ?_ | refine T_ret ?_ | refine T_block ?_ | refine T_skip ?_ | refine T_exit ?_ | (simp only [go_sem, Nat.reduceAdd, Nat.reduceBEq, Nat.reduceLeDiff, Nat.reduceLT, Nat.reduceEqDiff]; try rfl) | refine T_seq ?_
  refine T_cond rfl (fun h0 => ?_) (fun h0 => ?_)
  · repeat' first | refine T_seq_region rfl ?_ | refine T_region rfl ?_ | refine T_ret ?_ | refine T_block ?_ | refine T_skip ?_ | refine T_exit ?_ | (simp only [go_sem, Nat.reduceAdd, Nat.reduceBEq, Nat.reduceLeDiff, Nat.reduceLT, Nat.reduceEqDiff]; try rfl) | refine T_seq ?_
    exact boolF fun e => ne_of_bne h0 (congrArg DCall.ship e)
  repeat' first | refine T_seq_region rfl ?_ | refine T_region rfl ?_ | refine T_ret ?_ | refine T_block ?_ | refine T_skip ?_ | refine T_exit ?_ | (simp only [go_sem, Nat.reduceAdd, Nat.reduceBEq, Nat.reduceLeDiff, Nat.reduceLT, Nat.reduceEqDiff]; try rfl) | refine T_seq ?_
  refine T_cond rfl (fun h1 => ?_) (fun h1 => ?_)
  · repeat' first | refine T_seq_region rfl ?_ | refine T_region rfl ?_ | refine T_ret ?_ | refine T_block ?_ | refine T_skip ?_ | refine T_exit ?_ | (simp only [go_sem, Nat.reduceAdd, Nat.reduceBEq, Nat.reduceLeDiff, Nat.reduceLT, Nat.reduceEqDiff]; try rfl) | refine T_seq ?_
    exact boolF fun e => ne_of_bne h1 (congrArg DCall.src e)
  repeat' first | refine T_seq_region rfl ?_ | refine T_region rfl ?_ | refine T_ret ?_ | refine T_block ?_ | refine T_skip ?_ | refine T_exit ?_ | (simp only [go_sem, Nat.reduceAdd, Nat.reduceBEq, Nat.reduceLeDiff, Nat.reduceLT, Nat.reduceEqDiff]; try rfl) | refine T_seq ?_
  refine T_cond rfl (fun h2 => ?_) (fun h2 => ?_)
  · repeat' first | refine T_seq_region rfl ?_ | refine T_region rfl ?_ | refine T_ret ?_ | refine T_block ?_ | refine T_skip ?_ | refine T_exit ?_ | (simp only [go_sem, Nat.reduceAdd, Nat.reduceBEq, Nat.reduceLeDiff, Nat.reduceLT, Nat.reduceEqDiff]; try rfl) | refine T_seq ?_
    exact boolF fun e => ne_of_bne h2 (congrArg DCall.dst e)
  repeat' first | refine T_seq_region rfl ?_ | refine T_region rfl ?_ | refine T_ret ?_ | refine T_block ?_ | refine T_skip ?_ | refine T_exit ?_ | (simp only [go_sem, Nat.reduceAdd, Nat.reduceBEq, Nat.reduceLeDiff, Nat.reduceLT, Nat.reduceEqDiff]; try rfl) | refine T_seq ?_
  refine T_cond rfl (fun h3 => ?_) (fun h3 => ?_)
  · repeat' first | refine T_seq_region rfl ?_ | refine T_region rfl ?_ | refine T_ret ?_ | refine T_block ?_ | refine T_skip ?_ | refine T_exit ?_ | (simp only [go_sem, Nat.reduceAdd, Nat.reduceBEq, Nat.reduceLeDiff, Nat.reduceLT, Nat.reduceEqDiff]; try rfl) | refine T_seq ?_
    exact boolF fun e => ne_of_bne h3 (congrArg DCall.ready e)
  repeat' first | refine T_seq_region rfl ?_ | refine T_region rfl ?_ | refine T_ret ?_ | refine T_block ?_ | refine T_skip ?_ | refine T_exit ?_ | (simp only [go_sem, Nat.reduceAdd, Nat.reduceBEq, Nat.reduceLeDiff, Nat.reduceLT, Nat.reduceEqDiff]; try rfl) | refine T_seq ?_
  refine T_cond rfl (fun h4 => ?_) (fun h4 => ?_)
  · repeat' first | refine T_seq_region rfl ?_ | refine T_region rfl ?_ | refine T_ret ?_ | refine T_block ?_ | refine T_skip ?_ | refine T_exit ?_ | (simp only [go_sem, Nat.reduceAdd, Nat.reduceBEq, Nat.reduceLeDiff, Nat.reduceLT, Nat.reduceEqDiff]; try rfl) | refine T_seq ?_
    exact boolF fun e => ne_of_bne h4 (congrArg DCall.due e)
  repeat' first | refine T_seq_region rfl ?_ | refine T_region rfl ?_ | refine T_ret ?_ | refine T_block ?_ | refine T_skip ?_ | refine T_exit ?_ | (simp only [go_sem, Nat.reduceAdd, Nat.reduceBEq, Nat.reduceLeDiff, Nat.reduceLT, Nat.reduceEqDiff]; try rfl) | refine T_seq ?_
  refine boolT ?_
  obtain ⟨c_ship, c_src, c_dst, c_ready, c_due⟩ := c
  obtain ⟨d_ship, d_src, d_dst, d_ready, d_due⟩ := d
  show DCall.mk c_ship c_src c_dst c_ready c_due = DCall.mk d_ship d_src d_dst d_ready d_due
  rw [DCall.mk.injEq]
  exact ⟨eq_of_bne h0, eq_of_bne h1, eq_of_bne h2, eq_of_bne h3, eq_of_bne h4⟩

theorem eqIntS_fn (a b : Sl Int) (h : Hp) (ha : a.Ok h) (hb : b.Ok h) : Ct Try.prog 25 [a.val, b.val] h fun v h' => v = .bool (decide (Con.con a = Con.con b)) ∧ h' = h := by
  have hl := ha.max
  have hA : (Con.con a).length = a.l.length := List.length_map ..
  have hB : (Con.con b).length = b.l.length := List.length_map ..
  refine Ct_of_T (fun A W => by simp) Try.func25 rfl rfl (by simp) fun W0 => ?_
  repeat' first | refine T_seq_region rfl ?_ | refine T_region rfl ?_ | refine T_ret ?_ | refine T_block ?_ | refine T_skip ?_ | refine T_exit ?_ | (simp only [go_sem, Nat.reduceAdd, Nat.reduceBEq, Nat.reduceLeDiff, Nat.reduceLT, Nat.reduceEqDiff]; try rfl) | refine T_seq ?_
  refine T_cond rfl (fun hc => ?_) (fun hc => ?_)
  · repeat' first | refine T_seq_region rfl ?_ | refine T_region rfl ?_ | refine T_ret ?_ | refine T_block ?_ | refine T_skip ?_ | refine T_exit ?_ | (simp only [go_sem, Nat.reduceAdd, Nat.reduceBEq, Nat.reduceLeDiff, Nat.reduceLT, Nat.reduceEqDiff]; try rfl) | refine T_seq ?_
    exact boolF fun e => ne_of_bne hc (by rw [← hA, ← hB, e])
  have hlen : a.l.length = b.l.length := by have := eq_of_bne hc; omega
  repeat' first | refine T_seq_region rfl ?_ | refine T_region rfl ?_ | refine T_ret ?_ | refine T_block ?_ | refine T_skip ?_ | refine T_exit ?_ | (simp only [go_sem, Nat.reduceAdd, Nat.reduceBEq, Nat.reduceLeDiff, Nat.reduceLT, Nat.reduceEqDiff]; try rfl) | refine T_seq ?_
  refine T_loop (ι := Nat) (fun k => ⟨[(0, true, .c (.v a.val)), (1, true, .c (.v b.val)), (5, true, .c (.v (.int .i64 k)))], [], h, 0⟩) (fun k => k ≤ a.l.length ∧ (Con.con a).take k = (Con.con b).take k) (fun k => a.l.length - k) 0 ⟨Nat.zero_le _, rfl⟩ ?_ ?_
  · simp only [go_sem, Nat.reduceAdd, Nat.reduceBEq, Nat.reduceLeDiff, Nat.reduceLT, Nat.reduceEqDiff]
    rfl
  intro k hk
  repeat' first | refine T_seq_region rfl ?_ | refine T_region rfl ?_ | refine T_ret ?_ | refine T_block ?_ | refine T_skip ?_ | refine T_exit ?_ | (simp only [go_sem, Nat.reduceAdd, Nat.reduceBEq, Nat.reduceLeDiff, Nat.reduceLT, Nat.reduceEqDiff]; try rfl) | refine T_seq ?_
  refine T_cond rfl (fun hc => ?_) (fun hc => ?_)
  · have hlt := lt_of_dec hc
    have hlt' : k < b.l.length := by omega
    have gA : (Con.con a)[k]'(by omega) = Con.con a.l[k] := List.getElem_map ..
    have gB : (Con.con b)[k]'(by omega) = Con.con b.l[k] := List.getElem_map ..
    repeat' first | refine T_seq_region rfl ?_ | refine T_region rfl ?_ | refine T_ret ?_ | refine T_block ?_ | refine T_skip ?_ | refine T_exit ?_ | (simp only [go_sem, Nat.reduceAdd, Nat.reduceBEq, Nat.reduceLeDiff, Nat.reduceLT, Nat.reduceEqDiff]; try rfl) | refine T_seq ?_
    refine T_any_q rfl (by kernel_rfl) ?_
    simp only [go_sem, Nat.reduceAdd, Nat.reduceBEq, Nat.reduceLeDiff, Nat.reduceLT, Nat.reduceEqDiff, at_Int ha hlt, ha.some hlt, at_Int hb hlt', hb.some hlt', hlt, hlt']
    refine T_cond rfl (fun hd => ?_) (fun hd => ?_)
    · repeat' first | refine T_seq_region rfl ?_ | refine T_region rfl ?_ | refine T_ret ?_ | refine T_block ?_ | refine T_skip ?_ | refine T_exit ?_ | (simp only [go_sem, Nat.reduceAdd, Nat.reduceBEq, Nat.reduceLeDiff, Nat.reduceLT, Nat.reduceEqDiff]; try rfl) | refine T_seq ?_
      refine boolF fun e => (ne_of_bne hd : ¬ Con.con a.l[k] = Con.con b.l[k]) ?_
      rw [← gA, ← gB]; simp only [e]
    · repeat' first | refine T_seq_region rfl ?_ | refine T_region rfl ?_ | refine T_ret ?_ | refine T_block ?_ | refine T_skip ?_ | refine T_exit ?_ | (simp only [go_sem, Nat.reduceAdd, Nat.reduceBEq, Nat.reduceLeDiff, Nat.reduceLT, Nat.reduceEqDiff]; try rfl) | refine T_seq ?_
      exact ⟨k + 1, ⟨hlt, take_eq_succ (by omega) (by omega) hk.2 (by rw [gA, gB]; exact eq_of_bne hd)⟩, by omega, svInt (wrapS hlt (by omega))⟩
  · have hge := ge_of_dec hc
    repeat' first | refine T_seq_region rfl ?_ | refine T_region rfl ?_ | refine T_ret ?_ | refine T_block ?_ | refine T_skip ?_ | refine T_exit ?_ | (simp only [go_sem, Nat.reduceAdd, Nat.reduceBEq, Nat.reduceLeDiff, Nat.reduceLT, Nat.reduceEqDiff]; try rfl) | refine T_seq ?_
    refine boolT ?_
    have := hk.2
    rwa [List.take_of_length_le (by omega), List.take_of_length_le (by omega)] at this

theorem eqPassage_fn (c d : DPassage) (h : Hp) (hc : Enc.ok h c) (hd : Enc.ok h d) : Ct Try.prog 73 [.agg #[.int .i64 c.ship, .int .i64 c.seg, .bool c.toward, .int .i64 c.start, .int .i64 c.fin], .agg #[.int .i64 d.ship, .int .i64 d.seg, .bool d.toward, .int .i64 d.start, .int .i64 d.fin]] h fun v h' => v = .bool (decide (Con.con c = Con.con d)) ∧ h' = h := by
  obtain ⟨oc_ship, oc_seg, oc_start, oc_fin⟩ := hc
  obtain ⟨od_ship, od_seg, od_start, od_fin⟩ := hd
  refine Ct_of_T (fun A W => by simp) Try.func73 rfl rfl (by simp) fun W0 => ?_
  repeat' first | refine T_seq_region rfl ?_ | refine T_region rfl ?_ | refine T_ret ?_ | refine T_block ?_ | refine T_skip ?_ | refine T_exit ?_ | (simp only [go_sem, Nat.reduceAdd, Nat.reduceBEq, Nat.reduceLeDiff, Nat.reduceLT, Nat.reduceEqDiff]; try rfl) | refine T_seq ?_
  refine T_cond rfl (fun h0 => ?_) (fun h0 => ?_)
  · repeat' first | refine T_seq_region rfl ?_ | refine T_region rfl ?_ | refine T_ret ?_ | refine T_block ?_ | refine T_skip ?_ | refine T_exit ?_ | (simp only [go_sem, Nat.reduceAdd, Nat.reduceBEq, Nat.reduceLeDiff, Nat.reduceLT, Nat.reduceEqDiff]; try rfl) | refine T_seq ?_
    exact boolF fun e => ne_of_bne h0 (congrArg DPassage.ship e)
  repeat' first | refine T_seq_region rfl ?_ | refine T_region rfl ?_ | refine T_ret ?_ | refine T_block ?_ | refine T_skip ?_ | refine T_exit ?_ | (simp only [go_sem, Nat.reduceAdd, Nat.reduceBEq, Nat.reduceLeDiff, Nat.reduceLT, Nat.reduceEqDiff]; try rfl) | refine T_seq ?_
  refine T_cond rfl (fun h1 => ?_) (fun h1 => ?_)
  · repeat' first | refine T_seq_region rfl ?_ | refine T_region rfl ?_ | refine T_ret ?_ | refine T_block ?_ | refine T_skip ?_ | refine T_exit ?_ | (simp only [go_sem, Nat.reduceAdd, Nat.reduceBEq, Nat.reduceLeDiff, Nat.reduceLT, Nat.reduceEqDiff]; try rfl) | refine T_seq ?_
    exact boolF fun e => ne_of_bne h1 (congrArg DPassage.seg e)
  repeat' first | refine T_seq_region rfl ?_ | refine T_region rfl ?_ | refine T_ret ?_ | refine T_block ?_ | refine T_skip ?_ | refine T_exit ?_ | (simp only [go_sem, Nat.reduceAdd, Nat.reduceBEq, Nat.reduceLeDiff, Nat.reduceLT, Nat.reduceEqDiff]; try rfl) | refine T_seq ?_
  refine T_cond rfl (fun h2 => ?_) (fun h2 => ?_)
  · repeat' first | refine T_seq_region rfl ?_ | refine T_region rfl ?_ | refine T_ret ?_ | refine T_block ?_ | refine T_skip ?_ | refine T_exit ?_ | (simp only [go_sem, Nat.reduceAdd, Nat.reduceBEq, Nat.reduceLeDiff, Nat.reduceLT, Nat.reduceEqDiff]; try rfl) | refine T_seq ?_
    exact boolF fun e => ne_of_bne h2 (congrArg DPassage.toward e)
  repeat' first | refine T_seq_region rfl ?_ | refine T_region rfl ?_ | refine T_ret ?_ | refine T_block ?_ | refine T_skip ?_ | refine T_exit ?_ | (simp only [go_sem, Nat.reduceAdd, Nat.reduceBEq, Nat.reduceLeDiff, Nat.reduceLT, Nat.reduceEqDiff]; try rfl) | refine T_seq ?_
  refine T_cond rfl (fun h3 => ?_) (fun h3 => ?_)
  · repeat' first | refine T_seq_region rfl ?_ | refine T_region rfl ?_ | refine T_ret ?_ | refine T_block ?_ | refine T_skip ?_ | refine T_exit ?_ | (simp only [go_sem, Nat.reduceAdd, Nat.reduceBEq, Nat.reduceLeDiff, Nat.reduceLT, Nat.reduceEqDiff]; try rfl) | refine T_seq ?_
    exact boolF fun e => ne_of_bne h3 (congrArg DPassage.start e)
  repeat' first | refine T_seq_region rfl ?_ | refine T_region rfl ?_ | refine T_ret ?_ | refine T_block ?_ | refine T_skip ?_ | refine T_exit ?_ | (simp only [go_sem, Nat.reduceAdd, Nat.reduceBEq, Nat.reduceLeDiff, Nat.reduceLT, Nat.reduceEqDiff]; try rfl) | refine T_seq ?_
  refine T_cond rfl (fun h4 => ?_) (fun h4 => ?_)
  · repeat' first | refine T_seq_region rfl ?_ | refine T_region rfl ?_ | refine T_ret ?_ | refine T_block ?_ | refine T_skip ?_ | refine T_exit ?_ | (simp only [go_sem, Nat.reduceAdd, Nat.reduceBEq, Nat.reduceLeDiff, Nat.reduceLT, Nat.reduceEqDiff]; try rfl) | refine T_seq ?_
    exact boolF fun e => ne_of_bne h4 (congrArg DPassage.fin e)
  repeat' first | refine T_seq_region rfl ?_ | refine T_region rfl ?_ | refine T_ret ?_ | refine T_block ?_ | refine T_skip ?_ | refine T_exit ?_ | (simp only [go_sem, Nat.reduceAdd, Nat.reduceBEq, Nat.reduceLeDiff, Nat.reduceLT, Nat.reduceEqDiff]; try rfl) | refine T_seq ?_
  refine boolT ?_
  obtain ⟨c_ship, c_seg, c_toward, c_start, c_fin⟩ := c
  obtain ⟨d_ship, d_seg, d_toward, d_start, d_fin⟩ := d
  show DPassage.mk c_ship c_seg c_toward c_start c_fin = DPassage.mk d_ship d_seg d_toward d_start d_fin
  rw [DPassage.mk.injEq]
  exact ⟨eq_of_bne h0, eq_of_bne h1, eq_of_bne h2, eq_of_bne h3, eq_of_bne h4⟩

theorem eqCallS_fn (a b : Sl DCall) (h : Hp) (ha : a.Ok h) (hb : b.Ok h) : Ct Try.prog 24 [a.val, b.val] h fun v h' => v = .bool (decide (Con.con a = Con.con b)) ∧ h' = h := by
  have hl := ha.max
  have hA : (Con.con a).length = a.l.length := List.length_map ..
  have hB : (Con.con b).length = b.l.length := List.length_map ..
  refine Ct_of_T (fun A W => by simp) Try.func24 rfl rfl (by simp) fun W0 => ?_
  repeat' first | refine T_seq_region rfl ?_ | refine T_region rfl ?_ | refine T_ret ?_ | refine T_block ?_ | refine T_skip ?_ | refine T_exit ?_ | (simp only [go_sem, Nat.reduceAdd, Nat.reduceBEq, Nat.reduceLeDiff, Nat.reduceLT, Nat.reduceEqDiff]; try rfl) | refine T_seq ?_
  refine T_cond rfl (fun hc => ?_) (fun hc => ?_)
  · repeat' first | refine T_seq_region rfl ?_ | refine T_region rfl ?_ | refine T_ret ?_ | refine T_block ?_ | refine T_skip ?_ | refine T_exit ?_ | (simp only [go_sem, Nat.reduceAdd, Nat.reduceBEq, Nat.reduceLeDiff, Nat.reduceLT, Nat.reduceEqDiff]; try rfl) | refine T_seq ?_
    exact boolF fun e => ne_of_bne hc (by rw [← hA, ← hB, e])
  have hlen : a.l.length = b.l.length := by have := eq_of_bne hc; omega
  repeat' first | refine T_seq_region rfl ?_ | refine T_region rfl ?_ | refine T_ret ?_ | refine T_block ?_ | refine T_skip ?_ | refine T_exit ?_ | (simp only [go_sem, Nat.reduceAdd, Nat.reduceBEq, Nat.reduceLeDiff, Nat.reduceLT, Nat.reduceEqDiff]; try rfl) | refine T_seq ?_
  refine T_loop (ι := Nat) (fun k => ⟨[(0, true, .c (.v a.val)), (1, true, .c (.v b.val)), (5, true, .c (.v (.int .i64 k)))], [], h, 0⟩) (fun k => k ≤ a.l.length ∧ (Con.con a).take k = (Con.con b).take k) (fun k => a.l.length - k) 0 ⟨Nat.zero_le _, rfl⟩ ?_ ?_
  · simp only [go_sem, Nat.reduceAdd, Nat.reduceBEq, Nat.reduceLeDiff, Nat.reduceLT, Nat.reduceEqDiff]
    rfl
  intro k hk
  repeat' first | refine T_seq_region rfl ?_ | refine T_region rfl ?_ | refine T_ret ?_ | refine T_block ?_ | refine T_skip ?_ | refine T_exit ?_ | (simp only [go_sem, Nat.reduceAdd, Nat.reduceBEq, Nat.reduceLeDiff, Nat.reduceLT, Nat.reduceEqDiff]; try rfl) | refine T_seq ?_
  refine T_cond rfl (fun hc => ?_) (fun hc => ?_)
  · have hlt := lt_of_dec hc
    have hlt' : k < b.l.length := by omega
    have gA : (Con.con a)[k]'(by omega) = Con.con a.l[k] := List.getElem_map ..
    have gB : (Con.con b)[k]'(by omega) = Con.con b.l[k] := List.getElem_map ..
    repeat' first | refine T_seq_region rfl ?_ | refine T_region rfl ?_ | refine T_ret ?_ | refine T_block ?_ | refine T_skip ?_ | refine T_exit ?_ | (simp only [go_sem, Nat.reduceAdd, Nat.reduceBEq, Nat.reduceLeDiff, Nat.reduceLT, Nat.reduceEqDiff]; try rfl) | refine T_seq ?_
    refine T_any rfl ?_
    refine V_takes [0, 1, 2, 3, 4, 5, 6, 7] rfl (by kernel_rfl) ?_
    simp only [go_sem, Nat.reduceAdd, Nat.reduceBEq, Nat.reduceLeDiff, Nat.reduceLT, Nat.reduceEqDiff, at_DCall ha hlt, ha.some hlt, at_DCall hb hlt', hb.some hlt', hlt, hlt']
    refine V_branch [8] (by kernel_rfl) (by kernel_rfl) ?_
    simp only [go_sem, Nat.reduceAdd, Nat.reduceBEq, Nat.reduceLeDiff, Nat.reduceLT, Nat.reduceEqDiff, at_DCall ha hlt, ha.some hlt, at_DCall hb hlt', hb.some hlt', hlt, hlt']
    refine vfn_val (fun _ => eqCall_fn _ _ _ (ha.el hlt) (hb.el hlt')) ?_
    simp only [go_sem, Nat.reduceAdd, Nat.reduceBEq, Nat.reduceLeDiff, Nat.reduceLT, Nat.reduceEqDiff, at_DCall ha hlt, ha.some hlt, at_DCall hb hlt', hb.some hlt', hlt, hlt']
    refine V_takes [9] rfl (by kernel_rfl) ?_
    simp only [go_sem, Nat.reduceAdd, Nat.reduceBEq, Nat.reduceLeDiff, Nat.reduceLT, Nat.reduceEqDiff]
    refine V_done (by kernel_rfl) ?_
    repeat' first | refine T_seq_region rfl ?_ | refine T_region rfl ?_ | refine T_ret ?_ | refine T_block ?_ | refine T_skip ?_ | refine T_exit ?_ | (simp only [go_sem, Nat.reduceAdd, Nat.reduceBEq, Nat.reduceLeDiff, Nat.reduceLT, Nat.reduceEqDiff]; try rfl) | refine T_seq ?_
    refine T_cond rfl (fun hd => ?_) (fun hd => ?_)
    · repeat' first | refine T_seq_region rfl ?_ | refine T_region rfl ?_ | refine T_ret ?_ | refine T_block ?_ | refine T_skip ?_ | refine T_exit ?_ | (simp only [go_sem, Nat.reduceAdd, Nat.reduceBEq, Nat.reduceLeDiff, Nat.reduceLT, Nat.reduceEqDiff]; try rfl) | refine T_seq ?_
      refine boolF fun e => (of_decide_eq_false (by simpa only [Bool.not_eq_true'] using hd) : ¬ Con.con a.l[k] = Con.con b.l[k]) ?_
      rw [← gA, ← gB]; simp only [e]
    · repeat' first | refine T_seq_region rfl ?_ | refine T_region rfl ?_ | refine T_ret ?_ | refine T_block ?_ | refine T_skip ?_ | refine T_exit ?_ | (simp only [go_sem, Nat.reduceAdd, Nat.reduceBEq, Nat.reduceLeDiff, Nat.reduceLT, Nat.reduceEqDiff]; try rfl) | refine T_seq ?_
      exact ⟨k + 1, ⟨hlt, take_eq_succ (by omega) (by omega) hk.2 (by rw [gA, gB]; exact of_decide_eq_true (by simpa only [Bool.not_eq_false'] using hd))⟩, by omega, svInt (wrapS hlt (by omega))⟩
  · have hge := ge_of_dec hc
    repeat' first | refine T_seq_region rfl ?_ | refine T_region rfl ?_ | refine T_ret ?_ | refine T_block ?_ | refine T_skip ?_ | refine T_exit ?_ | (simp only [go_sem, Nat.reduceAdd, Nat.reduceBEq, Nat.reduceLeDiff, Nat.reduceLT, Nat.reduceEqDiff]; try rfl) | refine T_seq ?_
    refine boolT ?_
    have := hk.2
    rwa [List.take_of_length_le (by omega), List.take_of_length_le (by omega)] at this

theorem eqCrew_fn (c d : DCrew) (h : Hp) (hc : Enc.ok h c) (hd : Enc.ok h d) : Ct Try.prog 18 [.agg #[.int .i64 c.tugs, .int .i64 c.pilots, .int .i64 c.rest, c.moves.val], .agg #[.int .i64 d.tugs, .int .i64 d.pilots, .int .i64 d.rest, d.moves.val]] h fun v h' => v = .bool (decide (Con.con c = Con.con d)) ∧ h' = h := by
  obtain ⟨oc_tugs, oc_pilots, oc_rest, oc_moves⟩ := hc
  obtain ⟨od_tugs, od_pilots, od_rest, od_moves⟩ := hd
  refine Ct_of_T (fun A W => by simp) Try.func18 rfl rfl (by simp) fun W0 => ?_
  repeat' first | refine T_seq_region rfl ?_ | refine T_region rfl ?_ | refine T_ret ?_ | refine T_block ?_ | refine T_skip ?_ | refine T_exit ?_ | (simp only [go_sem, Nat.reduceAdd, Nat.reduceBEq, Nat.reduceLeDiff, Nat.reduceLT, Nat.reduceEqDiff]; try rfl) | refine T_seq ?_
  refine T_cond rfl (fun h0 => ?_) (fun h0 => ?_)
  · repeat' first | refine T_seq_region rfl ?_ | refine T_region rfl ?_ | refine T_ret ?_ | refine T_block ?_ | refine T_skip ?_ | refine T_exit ?_ | (simp only [go_sem, Nat.reduceAdd, Nat.reduceBEq, Nat.reduceLeDiff, Nat.reduceLT, Nat.reduceEqDiff]; try rfl) | refine T_seq ?_
    refine boolF fun e => ?_
    rw [con_DCrew, con_DCrew, PCrew.mk.injEq] at e
    exact ne_of_bne h0 e.1
  repeat' first | refine T_seq_region rfl ?_ | refine T_region rfl ?_ | refine T_ret ?_ | refine T_block ?_ | refine T_skip ?_ | refine T_exit ?_ | (simp only [go_sem, Nat.reduceAdd, Nat.reduceBEq, Nat.reduceLeDiff, Nat.reduceLT, Nat.reduceEqDiff]; try rfl) | refine T_seq ?_
  refine T_cond rfl (fun h1 => ?_) (fun h1 => ?_)
  · repeat' first | refine T_seq_region rfl ?_ | refine T_region rfl ?_ | refine T_ret ?_ | refine T_block ?_ | refine T_skip ?_ | refine T_exit ?_ | (simp only [go_sem, Nat.reduceAdd, Nat.reduceBEq, Nat.reduceLeDiff, Nat.reduceLT, Nat.reduceEqDiff]; try rfl) | refine T_seq ?_
    refine boolF fun e => ?_
    rw [con_DCrew, con_DCrew, PCrew.mk.injEq] at e
    exact ne_of_bne h1 e.2.1
  repeat' first | refine T_seq_region rfl ?_ | refine T_region rfl ?_ | refine T_ret ?_ | refine T_block ?_ | refine T_skip ?_ | refine T_exit ?_ | (simp only [go_sem, Nat.reduceAdd, Nat.reduceBEq, Nat.reduceLeDiff, Nat.reduceLT, Nat.reduceEqDiff]; try rfl) | refine T_seq ?_
  refine T_cond rfl (fun h2 => ?_) (fun h2 => ?_)
  · repeat' first | refine T_seq_region rfl ?_ | refine T_region rfl ?_ | refine T_ret ?_ | refine T_block ?_ | refine T_skip ?_ | refine T_exit ?_ | (simp only [go_sem, Nat.reduceAdd, Nat.reduceBEq, Nat.reduceLeDiff, Nat.reduceLT, Nat.reduceEqDiff]; try rfl) | refine T_seq ?_
    refine boolF fun e => ?_
    rw [con_DCrew, con_DCrew, PCrew.mk.injEq] at e
    exact ne_of_bne h2 e.2.2.1
  repeat' first | refine T_seq_region rfl ?_ | refine T_region rfl ?_ | refine T_ret ?_ | refine T_block ?_ | refine T_skip ?_ | refine T_exit ?_ | refine vfn_val (fun _ => eqIntS_fn _ _ _ oc_moves od_moves) ?_ | (simp only [go_sem, Nat.reduceAdd, Nat.reduceBEq, Nat.reduceLeDiff, Nat.reduceLT, Nat.reduceEqDiff]; try rfl) | refine T_seq ?_
  refine T_cond rfl (fun h3 => ?_) (fun h3 => ?_)
  · repeat' first | refine T_seq_region rfl ?_ | refine T_region rfl ?_ | refine T_ret ?_ | refine T_block ?_ | refine T_skip ?_ | refine T_exit ?_ | (simp only [go_sem, Nat.reduceAdd, Nat.reduceBEq, Nat.reduceLeDiff, Nat.reduceLT, Nat.reduceEqDiff]; try rfl) | refine T_seq ?_
    refine boolF fun e => ?_
    rw [con_DCrew, con_DCrew, PCrew.mk.injEq] at e
    exact of_decide_eq_false (by simpa only [Bool.not_eq_true'] using h3) e.2.2.2
  repeat' first | refine T_seq_region rfl ?_ | refine T_region rfl ?_ | refine T_ret ?_ | refine T_block ?_ | refine T_skip ?_ | refine T_exit ?_ | (simp only [go_sem, Nat.reduceAdd, Nat.reduceBEq, Nat.reduceLeDiff, Nat.reduceLT, Nat.reduceEqDiff]; try rfl) | refine T_seq ?_
  refine boolT ?_
  rw [con_DCrew, con_DCrew, PCrew.mk.injEq]
  exact ⟨eq_of_bne h0, eq_of_bne h1, eq_of_bne h2, of_decide_eq_true (by simpa only [Bool.not_eq_false'] using h3)⟩

theorem eqPassageS_fn (a b : Sl DPassage) (h : Hp) (ha : a.Ok h) (hb : b.Ok h) : Ct Try.prog 42 [a.val, b.val] h fun v h' => v = .bool (decide (Con.con a = Con.con b)) ∧ h' = h := by
  have hl := ha.max
  have hA : (Con.con a).length = a.l.length := List.length_map ..
  have hB : (Con.con b).length = b.l.length := List.length_map ..
  refine Ct_of_T (fun A W => by simp) Try.func42 rfl rfl (by simp) fun W0 => ?_
  repeat' first | refine T_seq_region rfl ?_ | refine T_region rfl ?_ | refine T_ret ?_ | refine T_block ?_ | refine T_skip ?_ | refine T_exit ?_ | (simp only [go_sem, Nat.reduceAdd, Nat.reduceBEq, Nat.reduceLeDiff, Nat.reduceLT, Nat.reduceEqDiff]; try rfl) | refine T_seq ?_
  refine T_cond rfl (fun hc => ?_) (fun hc => ?_)
  · repeat' first | refine T_seq_region rfl ?_ | refine T_region rfl ?_ | refine T_ret ?_ | refine T_block ?_ | refine T_skip ?_ | refine T_exit ?_ | (simp only [go_sem, Nat.reduceAdd, Nat.reduceBEq, Nat.reduceLeDiff, Nat.reduceLT, Nat.reduceEqDiff]; try rfl) | refine T_seq ?_
    exact boolF fun e => ne_of_bne hc (by rw [← hA, ← hB, e])
  have hlen : a.l.length = b.l.length := by have := eq_of_bne hc; omega
  repeat' first | refine T_seq_region rfl ?_ | refine T_region rfl ?_ | refine T_ret ?_ | refine T_block ?_ | refine T_skip ?_ | refine T_exit ?_ | (simp only [go_sem, Nat.reduceAdd, Nat.reduceBEq, Nat.reduceLeDiff, Nat.reduceLT, Nat.reduceEqDiff]; try rfl) | refine T_seq ?_
  refine T_loop (ι := Nat) (fun k => ⟨[(0, true, .c (.v a.val)), (1, true, .c (.v b.val)), (5, true, .c (.v (.int .i64 k)))], [], h, 0⟩) (fun k => k ≤ a.l.length ∧ (Con.con a).take k = (Con.con b).take k) (fun k => a.l.length - k) 0 ⟨Nat.zero_le _, rfl⟩ ?_ ?_
  · simp only [go_sem, Nat.reduceAdd, Nat.reduceBEq, Nat.reduceLeDiff, Nat.reduceLT, Nat.reduceEqDiff]
    rfl
  intro k hk
  repeat' first | refine T_seq_region rfl ?_ | refine T_region rfl ?_ | refine T_ret ?_ | refine T_block ?_ | refine T_skip ?_ | refine T_exit ?_ | (simp only [go_sem, Nat.reduceAdd, Nat.reduceBEq, Nat.reduceLeDiff, Nat.reduceLT, Nat.reduceEqDiff]; try rfl) | refine T_seq ?_
  refine T_cond rfl (fun hc => ?_) (fun hc => ?_)
  · have hlt := lt_of_dec hc
    have hlt' : k < b.l.length := by omega
    have gA : (Con.con a)[k]'(by omega) = Con.con a.l[k] := List.getElem_map ..
    have gB : (Con.con b)[k]'(by omega) = Con.con b.l[k] := List.getElem_map ..
    repeat' first | refine T_seq_region rfl ?_ | refine T_region rfl ?_ | refine T_ret ?_ | refine T_block ?_ | refine T_skip ?_ | refine T_exit ?_ | (simp only [go_sem, Nat.reduceAdd, Nat.reduceBEq, Nat.reduceLeDiff, Nat.reduceLT, Nat.reduceEqDiff]; try rfl) | refine T_seq ?_
    refine T_any rfl ?_
    refine V_takes [0, 1, 2, 3, 4, 5, 6, 7] rfl (by kernel_rfl) ?_
    simp only [go_sem, Nat.reduceAdd, Nat.reduceBEq, Nat.reduceLeDiff, Nat.reduceLT, Nat.reduceEqDiff, at_DPassage ha hlt, ha.some hlt, at_DPassage hb hlt', hb.some hlt', hlt, hlt']
    refine V_branch [8] (by kernel_rfl) (by kernel_rfl) ?_
    simp only [go_sem, Nat.reduceAdd, Nat.reduceBEq, Nat.reduceLeDiff, Nat.reduceLT, Nat.reduceEqDiff, at_DPassage ha hlt, ha.some hlt, at_DPassage hb hlt', hb.some hlt', hlt, hlt']
    refine vfn_val (fun _ => eqPassage_fn _ _ _ (ha.el hlt) (hb.el hlt')) ?_
    simp only [go_sem, Nat.reduceAdd, Nat.reduceBEq, Nat.reduceLeDiff, Nat.reduceLT, Nat.reduceEqDiff, at_DPassage ha hlt, ha.some hlt, at_DPassage hb hlt', hb.some hlt', hlt, hlt']
    refine V_takes [9] rfl (by kernel_rfl) ?_
    simp only [go_sem, Nat.reduceAdd, Nat.reduceBEq, Nat.reduceLeDiff, Nat.reduceLT, Nat.reduceEqDiff]
    refine V_done (by kernel_rfl) ?_
    repeat' first | refine T_seq_region rfl ?_ | refine T_region rfl ?_ | refine T_ret ?_ | refine T_block ?_ | refine T_skip ?_ | refine T_exit ?_ | (simp only [go_sem, Nat.reduceAdd, Nat.reduceBEq, Nat.reduceLeDiff, Nat.reduceLT, Nat.reduceEqDiff]; try rfl) | refine T_seq ?_
    refine T_cond rfl (fun hd => ?_) (fun hd => ?_)
    · repeat' first | refine T_seq_region rfl ?_ | refine T_region rfl ?_ | refine T_ret ?_ | refine T_block ?_ | refine T_skip ?_ | refine T_exit ?_ | (simp only [go_sem, Nat.reduceAdd, Nat.reduceBEq, Nat.reduceLeDiff, Nat.reduceLT, Nat.reduceEqDiff]; try rfl) | refine T_seq ?_
      refine boolF fun e => (of_decide_eq_false (by simpa only [Bool.not_eq_true'] using hd) : ¬ Con.con a.l[k] = Con.con b.l[k]) ?_
      rw [← gA, ← gB]; simp only [e]
    · repeat' first | refine T_seq_region rfl ?_ | refine T_region rfl ?_ | refine T_ret ?_ | refine T_block ?_ | refine T_skip ?_ | refine T_exit ?_ | (simp only [go_sem, Nat.reduceAdd, Nat.reduceBEq, Nat.reduceLeDiff, Nat.reduceLT, Nat.reduceEqDiff]; try rfl) | refine T_seq ?_
      exact ⟨k + 1, ⟨hlt, take_eq_succ (by omega) (by omega) hk.2 (by rw [gA, gB]; exact of_decide_eq_true (by simpa only [Bool.not_eq_false'] using hd))⟩, by omega, svInt (wrapS hlt (by omega))⟩
  · have hge := ge_of_dec hc
    repeat' first | refine T_seq_region rfl ?_ | refine T_region rfl ?_ | refine T_ret ?_ | refine T_block ?_ | refine T_skip ?_ | refine T_exit ?_ | (simp only [go_sem, Nat.reduceAdd, Nat.reduceBEq, Nat.reduceLeDiff, Nat.reduceLT, Nat.reduceEqDiff]; try rfl) | refine T_seq ?_
    refine boolT ?_
    have := hk.2
    rwa [List.take_of_length_le (by omega), List.take_of_length_le (by omega)] at this

theorem eqOption_fn (c d : DOption) (h : Hp) (hc : Enc.ok h c) (hd : Enc.ok h d) : Ct Try.prog 30 [.agg #[.int .i64 c.start, .int .i64 c.arr, .int .i64 c.cost, c.pas.val], .agg #[.int .i64 d.start, .int .i64 d.arr, .int .i64 d.cost, d.pas.val]] h fun v h' => v = .bool (decide (Con.con c = Con.con d)) ∧ h' = h := by
  obtain ⟨oc_start, oc_arr, oc_cost, oc_pas⟩ := hc
  obtain ⟨od_start, od_arr, od_cost, od_pas⟩ := hd
  refine Ct_of_T (fun A W => by simp) Try.func30 rfl rfl (by simp) fun W0 => ?_
  repeat' first | refine T_seq_region rfl ?_ | refine T_region rfl ?_ | refine T_ret ?_ | refine T_block ?_ | refine T_skip ?_ | refine T_exit ?_ | (simp only [go_sem, Nat.reduceAdd, Nat.reduceBEq, Nat.reduceLeDiff, Nat.reduceLT, Nat.reduceEqDiff]; try rfl) | refine T_seq ?_
  refine T_cond rfl (fun h0 => ?_) (fun h0 => ?_)
  · repeat' first | refine T_seq_region rfl ?_ | refine T_region rfl ?_ | refine T_ret ?_ | refine T_block ?_ | refine T_skip ?_ | refine T_exit ?_ | (simp only [go_sem, Nat.reduceAdd, Nat.reduceBEq, Nat.reduceLeDiff, Nat.reduceLT, Nat.reduceEqDiff]; try rfl) | refine T_seq ?_
    refine boolF fun e => ?_
    rw [con_DOption, con_DOption, POption.mk.injEq] at e
    exact ne_of_bne h0 e.1
  repeat' first | refine T_seq_region rfl ?_ | refine T_region rfl ?_ | refine T_ret ?_ | refine T_block ?_ | refine T_skip ?_ | refine T_exit ?_ | (simp only [go_sem, Nat.reduceAdd, Nat.reduceBEq, Nat.reduceLeDiff, Nat.reduceLT, Nat.reduceEqDiff]; try rfl) | refine T_seq ?_
  refine T_cond rfl (fun h1 => ?_) (fun h1 => ?_)
  · repeat' first | refine T_seq_region rfl ?_ | refine T_region rfl ?_ | refine T_ret ?_ | refine T_block ?_ | refine T_skip ?_ | refine T_exit ?_ | (simp only [go_sem, Nat.reduceAdd, Nat.reduceBEq, Nat.reduceLeDiff, Nat.reduceLT, Nat.reduceEqDiff]; try rfl) | refine T_seq ?_
    refine boolF fun e => ?_
    rw [con_DOption, con_DOption, POption.mk.injEq] at e
    exact ne_of_bne h1 e.2.1
  repeat' first | refine T_seq_region rfl ?_ | refine T_region rfl ?_ | refine T_ret ?_ | refine T_block ?_ | refine T_skip ?_ | refine T_exit ?_ | (simp only [go_sem, Nat.reduceAdd, Nat.reduceBEq, Nat.reduceLeDiff, Nat.reduceLT, Nat.reduceEqDiff]; try rfl) | refine T_seq ?_
  refine T_cond rfl (fun h2 => ?_) (fun h2 => ?_)
  · repeat' first | refine T_seq_region rfl ?_ | refine T_region rfl ?_ | refine T_ret ?_ | refine T_block ?_ | refine T_skip ?_ | refine T_exit ?_ | (simp only [go_sem, Nat.reduceAdd, Nat.reduceBEq, Nat.reduceLeDiff, Nat.reduceLT, Nat.reduceEqDiff]; try rfl) | refine T_seq ?_
    refine boolF fun e => ?_
    rw [con_DOption, con_DOption, POption.mk.injEq] at e
    exact ne_of_bne h2 e.2.2.1
  repeat' first | refine T_seq_region rfl ?_ | refine T_region rfl ?_ | refine T_ret ?_ | refine T_block ?_ | refine T_skip ?_ | refine T_exit ?_ | refine vfn_val (fun _ => eqPassageS_fn _ _ _ oc_pas od_pas) ?_ | (simp only [go_sem, Nat.reduceAdd, Nat.reduceBEq, Nat.reduceLeDiff, Nat.reduceLT, Nat.reduceEqDiff]; try rfl) | refine T_seq ?_
  refine T_cond rfl (fun h3 => ?_) (fun h3 => ?_)
  · repeat' first | refine T_seq_region rfl ?_ | refine T_region rfl ?_ | refine T_ret ?_ | refine T_block ?_ | refine T_skip ?_ | refine T_exit ?_ | (simp only [go_sem, Nat.reduceAdd, Nat.reduceBEq, Nat.reduceLeDiff, Nat.reduceLT, Nat.reduceEqDiff]; try rfl) | refine T_seq ?_
    refine boolF fun e => ?_
    rw [con_DOption, con_DOption, POption.mk.injEq] at e
    exact of_decide_eq_false (by simpa only [Bool.not_eq_true'] using h3) e.2.2.2
  repeat' first | refine T_seq_region rfl ?_ | refine T_region rfl ?_ | refine T_ret ?_ | refine T_block ?_ | refine T_skip ?_ | refine T_exit ?_ | (simp only [go_sem, Nat.reduceAdd, Nat.reduceBEq, Nat.reduceLeDiff, Nat.reduceLT, Nat.reduceEqDiff]; try rfl) | refine T_seq ?_
  refine boolT ?_
  rw [con_DOption, con_DOption, POption.mk.injEq]
  exact ⟨eq_of_bne h0, eq_of_bne h1, eq_of_bne h2, of_decide_eq_true (by simpa only [Bool.not_eq_false'] using h3)⟩

theorem eqPassageSS_fn (a b : Sl (Sl DPassage)) (h : Hp) (ha : a.Ok h) (hb : b.Ok h) : Ct Try.prog 57 [a.val, b.val] h fun v h' => v = .bool (decide (Con.con a = Con.con b)) ∧ h' = h := by
  have hl := ha.max
  have hA : (Con.con a).length = a.l.length := List.length_map ..
  have hB : (Con.con b).length = b.l.length := List.length_map ..
  refine Ct_of_T (fun A W => by simp) Try.func57 rfl rfl (by simp) fun W0 => ?_
  repeat' first | refine T_seq_region rfl ?_ | refine T_region rfl ?_ | refine T_ret ?_ | refine T_block ?_ | refine T_skip ?_ | refine T_exit ?_ | (simp only [go_sem, Nat.reduceAdd, Nat.reduceBEq, Nat.reduceLeDiff, Nat.reduceLT, Nat.reduceEqDiff]; try rfl) | refine T_seq ?_
  refine T_cond rfl (fun hc => ?_) (fun hc => ?_)
  · repeat' first | refine T_seq_region rfl ?_ | refine T_region rfl ?_ | refine T_ret ?_ | refine T_block ?_ | refine T_skip ?_ | refine T_exit ?_ | (simp only [go_sem, Nat.reduceAdd, Nat.reduceBEq, Nat.reduceLeDiff, Nat.reduceLT, Nat.reduceEqDiff]; try rfl) | refine T_seq ?_
    exact boolF fun e => ne_of_bne hc (by rw [← hA, ← hB, e])
  have hlen : a.l.length = b.l.length := by have := eq_of_bne hc; omega
  repeat' first | refine T_seq_region rfl ?_ | refine T_region rfl ?_ | refine T_ret ?_ | refine T_block ?_ | refine T_skip ?_ | refine T_exit ?_ | (simp only [go_sem, Nat.reduceAdd, Nat.reduceBEq, Nat.reduceLeDiff, Nat.reduceLT, Nat.reduceEqDiff]; try rfl) | refine T_seq ?_
  refine T_loop (ι := Nat) (fun k => ⟨[(0, true, .c (.v a.val)), (1, true, .c (.v b.val)), (5, true, .c (.v (.int .i64 k)))], [], h, 0⟩) (fun k => k ≤ a.l.length ∧ (Con.con a).take k = (Con.con b).take k) (fun k => a.l.length - k) 0 ⟨Nat.zero_le _, rfl⟩ ?_ ?_
  · simp only [go_sem, Nat.reduceAdd, Nat.reduceBEq, Nat.reduceLeDiff, Nat.reduceLT, Nat.reduceEqDiff]
    rfl
  intro k hk
  repeat' first | refine T_seq_region rfl ?_ | refine T_region rfl ?_ | refine T_ret ?_ | refine T_block ?_ | refine T_skip ?_ | refine T_exit ?_ | (simp only [go_sem, Nat.reduceAdd, Nat.reduceBEq, Nat.reduceLeDiff, Nat.reduceLT, Nat.reduceEqDiff]; try rfl) | refine T_seq ?_
  refine T_cond rfl (fun hc => ?_) (fun hc => ?_)
  · have hlt := lt_of_dec hc
    have hlt' : k < b.l.length := by omega
    have gA : (Con.con a)[k]'(by omega) = Con.con a.l[k] := List.getElem_map ..
    have gB : (Con.con b)[k]'(by omega) = Con.con b.l[k] := List.getElem_map ..
    repeat' first | refine T_seq_region rfl ?_ | refine T_region rfl ?_ | refine T_ret ?_ | refine T_block ?_ | refine T_skip ?_ | refine T_exit ?_ | (simp only [go_sem, Nat.reduceAdd, Nat.reduceBEq, Nat.reduceLeDiff, Nat.reduceLT, Nat.reduceEqDiff]; try rfl) | refine T_seq ?_
    refine T_any rfl ?_
    refine V_takes [0, 1, 2, 3, 4, 5, 6, 7] rfl (by kernel_rfl) ?_
    simp only [go_sem, Nat.reduceAdd, Nat.reduceBEq, Nat.reduceLeDiff, Nat.reduceLT, Nat.reduceEqDiff, at_Sl ha hlt, ha.some hlt, at_Sl hb hlt', hb.some hlt', hlt, hlt']
    refine V_branch [8] (by kernel_rfl) (by kernel_rfl) ?_
    simp only [go_sem, Nat.reduceAdd, Nat.reduceBEq, Nat.reduceLeDiff, Nat.reduceLT, Nat.reduceEqDiff, at_Sl ha hlt, ha.some hlt, at_Sl hb hlt', hb.some hlt', hlt, hlt']
    refine vfn_val (fun _ => eqPassageS_fn _ _ _ (ha.el hlt) (hb.el hlt')) ?_
    simp only [go_sem, Nat.reduceAdd, Nat.reduceBEq, Nat.reduceLeDiff, Nat.reduceLT, Nat.reduceEqDiff, at_Sl ha hlt, ha.some hlt, at_Sl hb hlt', hb.some hlt', hlt, hlt']
    refine V_takes [9] rfl (by kernel_rfl) ?_
    simp only [go_sem, Nat.reduceAdd, Nat.reduceBEq, Nat.reduceLeDiff, Nat.reduceLT, Nat.reduceEqDiff]
    refine V_done (by kernel_rfl) ?_
    repeat' first | refine T_seq_region rfl ?_ | refine T_region rfl ?_ | refine T_ret ?_ | refine T_block ?_ | refine T_skip ?_ | refine T_exit ?_ | (simp only [go_sem, Nat.reduceAdd, Nat.reduceBEq, Nat.reduceLeDiff, Nat.reduceLT, Nat.reduceEqDiff]; try rfl) | refine T_seq ?_
    refine T_cond rfl (fun hd => ?_) (fun hd => ?_)
    · repeat' first | refine T_seq_region rfl ?_ | refine T_region rfl ?_ | refine T_ret ?_ | refine T_block ?_ | refine T_skip ?_ | refine T_exit ?_ | (simp only [go_sem, Nat.reduceAdd, Nat.reduceBEq, Nat.reduceLeDiff, Nat.reduceLT, Nat.reduceEqDiff]; try rfl) | refine T_seq ?_
      refine boolF fun e => (of_decide_eq_false (by simpa only [Bool.not_eq_true'] using hd) : ¬ Con.con a.l[k] = Con.con b.l[k]) ?_
      rw [← gA, ← gB]; simp only [e]
    · repeat' first | refine T_seq_region rfl ?_ | refine T_region rfl ?_ | refine T_ret ?_ | refine T_block ?_ | refine T_skip ?_ | refine T_exit ?_ | (simp only [go_sem, Nat.reduceAdd, Nat.reduceBEq, Nat.reduceLeDiff, Nat.reduceLT, Nat.reduceEqDiff]; try rfl) | refine T_seq ?_
      exact ⟨k + 1, ⟨hlt, take_eq_succ (by omega) (by omega) hk.2 (by rw [gA, gB]; exact of_decide_eq_true (by simpa only [Bool.not_eq_false'] using hd))⟩, by omega, svInt (wrapS hlt (by omega))⟩
  · have hge := ge_of_dec hc
    repeat' first | refine T_seq_region rfl ?_ | refine T_region rfl ?_ | refine T_ret ?_ | refine T_block ?_ | refine T_skip ?_ | refine T_exit ?_ | (simp only [go_sem, Nat.reduceAdd, Nat.reduceBEq, Nat.reduceLeDiff, Nat.reduceLT, Nat.reduceEqDiff]; try rfl) | refine T_seq ?_
    refine boolT ?_
    have := hk.2
    rwa [List.take_of_length_le (by omega), List.take_of_length_le (by omega)] at this

theorem eqOptionS_fn (a b : Sl DOption) (h : Hp) (ha : a.Ok h) (hb : b.Ok h) : Ct Try.prog 37 [a.val, b.val] h fun v h' => v = .bool (decide (Con.con a = Con.con b)) ∧ h' = h := by
  have hl := ha.max
  have hA : (Con.con a).length = a.l.length := List.length_map ..
  have hB : (Con.con b).length = b.l.length := List.length_map ..
  refine Ct_of_T (fun A W => by simp) Try.func37 rfl rfl (by simp) fun W0 => ?_
  repeat' first | refine T_seq_region rfl ?_ | refine T_region rfl ?_ | refine T_ret ?_ | refine T_block ?_ | refine T_skip ?_ | refine T_exit ?_ | (simp only [go_sem, Nat.reduceAdd, Nat.reduceBEq, Nat.reduceLeDiff, Nat.reduceLT, Nat.reduceEqDiff]; try rfl) | refine T_seq ?_
  refine T_cond rfl (fun hc => ?_) (fun hc => ?_)
  · repeat' first | refine T_seq_region rfl ?_ | refine T_region rfl ?_ | refine T_ret ?_ | refine T_block ?_ | refine T_skip ?_ | refine T_exit ?_ | (simp only [go_sem, Nat.reduceAdd, Nat.reduceBEq, Nat.reduceLeDiff, Nat.reduceLT, Nat.reduceEqDiff]; try rfl) | refine T_seq ?_
    exact boolF fun e => ne_of_bne hc (by rw [← hA, ← hB, e])
  have hlen : a.l.length = b.l.length := by have := eq_of_bne hc; omega
  repeat' first | refine T_seq_region rfl ?_ | refine T_region rfl ?_ | refine T_ret ?_ | refine T_block ?_ | refine T_skip ?_ | refine T_exit ?_ | (simp only [go_sem, Nat.reduceAdd, Nat.reduceBEq, Nat.reduceLeDiff, Nat.reduceLT, Nat.reduceEqDiff]; try rfl) | refine T_seq ?_
  refine T_loop (ι := Nat) (fun k => ⟨[(0, true, .c (.v a.val)), (1, true, .c (.v b.val)), (5, true, .c (.v (.int .i64 k)))], [], h, 0⟩) (fun k => k ≤ a.l.length ∧ (Con.con a).take k = (Con.con b).take k) (fun k => a.l.length - k) 0 ⟨Nat.zero_le _, rfl⟩ ?_ ?_
  · simp only [go_sem, Nat.reduceAdd, Nat.reduceBEq, Nat.reduceLeDiff, Nat.reduceLT, Nat.reduceEqDiff]
    rfl
  intro k hk
  repeat' first | refine T_seq_region rfl ?_ | refine T_region rfl ?_ | refine T_ret ?_ | refine T_block ?_ | refine T_skip ?_ | refine T_exit ?_ | (simp only [go_sem, Nat.reduceAdd, Nat.reduceBEq, Nat.reduceLeDiff, Nat.reduceLT, Nat.reduceEqDiff]; try rfl) | refine T_seq ?_
  refine T_cond rfl (fun hc => ?_) (fun hc => ?_)
  · have hlt := lt_of_dec hc
    have hlt' : k < b.l.length := by omega
    have gA : (Con.con a)[k]'(by omega) = Con.con a.l[k] := List.getElem_map ..
    have gB : (Con.con b)[k]'(by omega) = Con.con b.l[k] := List.getElem_map ..
    repeat' first | refine T_seq_region rfl ?_ | refine T_region rfl ?_ | refine T_ret ?_ | refine T_block ?_ | refine T_skip ?_ | refine T_exit ?_ | (simp only [go_sem, Nat.reduceAdd, Nat.reduceBEq, Nat.reduceLeDiff, Nat.reduceLT, Nat.reduceEqDiff]; try rfl) | refine T_seq ?_
    refine T_any rfl ?_
    refine V_takes [0, 1, 2, 3, 4, 5, 6, 7] rfl (by kernel_rfl) ?_
    simp only [go_sem, Nat.reduceAdd, Nat.reduceBEq, Nat.reduceLeDiff, Nat.reduceLT, Nat.reduceEqDiff, at_DOption ha hlt, ha.some hlt, at_DOption hb hlt', hb.some hlt', hlt, hlt']
    refine V_branch [8] (by kernel_rfl) (by kernel_rfl) ?_
    simp only [go_sem, Nat.reduceAdd, Nat.reduceBEq, Nat.reduceLeDiff, Nat.reduceLT, Nat.reduceEqDiff, at_DOption ha hlt, ha.some hlt, at_DOption hb hlt', hb.some hlt', hlt, hlt']
    refine vfn_val (fun _ => eqOption_fn _ _ _ (ha.el hlt) (hb.el hlt')) ?_
    simp only [go_sem, Nat.reduceAdd, Nat.reduceBEq, Nat.reduceLeDiff, Nat.reduceLT, Nat.reduceEqDiff, at_DOption ha hlt, ha.some hlt, at_DOption hb hlt', hb.some hlt', hlt, hlt']
    refine V_takes [9] rfl (by kernel_rfl) ?_
    simp only [go_sem, Nat.reduceAdd, Nat.reduceBEq, Nat.reduceLeDiff, Nat.reduceLT, Nat.reduceEqDiff]
    refine V_done (by kernel_rfl) ?_
    repeat' first | refine T_seq_region rfl ?_ | refine T_region rfl ?_ | refine T_ret ?_ | refine T_block ?_ | refine T_skip ?_ | refine T_exit ?_ | (simp only [go_sem, Nat.reduceAdd, Nat.reduceBEq, Nat.reduceLeDiff, Nat.reduceLT, Nat.reduceEqDiff]; try rfl) | refine T_seq ?_
    refine T_cond rfl (fun hd => ?_) (fun hd => ?_)
    · repeat' first | refine T_seq_region rfl ?_ | refine T_region rfl ?_ | refine T_ret ?_ | refine T_block ?_ | refine T_skip ?_ | refine T_exit ?_ | (simp only [go_sem, Nat.reduceAdd, Nat.reduceBEq, Nat.reduceLeDiff, Nat.reduceLT, Nat.reduceEqDiff]; try rfl) | refine T_seq ?_
      refine boolF fun e => (of_decide_eq_false (by simpa only [Bool.not_eq_true'] using hd) : ¬ Con.con a.l[k] = Con.con b.l[k]) ?_
      rw [← gA, ← gB]; simp only [e]
    · repeat' first | refine T_seq_region rfl ?_ | refine T_region rfl ?_ | refine T_ret ?_ | refine T_block ?_ | refine T_skip ?_ | refine T_exit ?_ | (simp only [go_sem, Nat.reduceAdd, Nat.reduceBEq, Nat.reduceLeDiff, Nat.reduceLT, Nat.reduceEqDiff]; try rfl) | refine T_seq ?_
      exact ⟨k + 1, ⟨hlt, take_eq_succ (by omega) (by omega) hk.2 (by rw [gA, gB]; exact of_decide_eq_true (by simpa only [Bool.not_eq_false'] using hd))⟩, by omega, svInt (wrapS hlt (by omega))⟩
  · have hge := ge_of_dec hc
    repeat' first | refine T_seq_region rfl ?_ | refine T_region rfl ?_ | refine T_ret ?_ | refine T_block ?_ | refine T_skip ?_ | refine T_exit ?_ | (simp only [go_sem, Nat.reduceAdd, Nat.reduceBEq, Nat.reduceLeDiff, Nat.reduceLT, Nat.reduceEqDiff]; try rfl) | refine T_seq ?_
    refine boolT ?_
    have := hk.2
    rwa [List.take_of_length_le (by omega), List.take_of_length_le (by omega)] at this
end Go.Proofs.Ytkoghfeelonhhaa
