/- What functions of the given program compute, each as a contract over what its arguments read as. No condition beside those that each theorem states. -/
import Derived.Test.YtfbdafdbinbeaaaOk5
import Derived.Test.YtfbdafdbinbeaaaSLT
set_option linter.unusedVariables false
set_option linter.unusedSimpArgs false
namespace Go.Proofs.Ytfbdafdbinbeaaa
open Go Go.SL
set_option maxHeartbeats 1000000

theorem con_calll (s : Sl DCall) : Con.con s = s.l := List.map_id _

theorem spec_CallsOk_fn (x : DHarbour) (a : Sl DCall) (h : Hp) (hx : Enc.ok h x) (ha : Enc.ok h a) : Ct Try.prog 59 [x.v, a.val] h fun v h' => v = .bool (F_CallsOk (Con.con x) (Con.con a)) ∧ h' = h := by
  have ha : a.Ok h := ha
  have hl := ha.max
  rw [F_CallsOk, con_calll]
  refine Ct_of_T (fun A W => by simp) Try.func59 rfl rfl (by simp) fun W0 => ?_
  repeat' first | refine T_seq_region rfl ?_ | refine T_region rfl ?_ | refine T_ret ?_ | refine T_block ?_ | refine T_skip ?_ | refine T_exit ?_ | refine vfn_val (fun _ => spec_HarbourOk_fn x _ hx) ?_ | (simp (maxSteps := 2000000) only [go_sem, Nat.reduceAdd, Nat.reduceMul, Nat.reduceBEq, Nat.reduceLeDiff, Nat.reduceLT, Nat.reduceEqDiff]; try rfl) | refine T_seq ?_ | (refine And.intro ?_ ?_; focus (intros; simp_all only [Bool.or_eq_false_iff, Bool.or_eq_true, Bool.and_eq_true, and_self, true_and, and_true]; done))
  refine T_cond rfl (fun hc => ?_) (fun hc => ?_)
  · repeat' first | refine T_seq_region rfl ?_ | refine T_region rfl ?_ | refine T_ret ?_ | refine T_block ?_ | refine T_skip ?_ | refine T_exit ?_ | (simp (maxSteps := 2000000) only [go_sem, Nat.reduceAdd, Nat.reduceMul, Nat.reduceBEq, Nat.reduceLeDiff, Nat.reduceLT, Nat.reduceEqDiff]; try rfl) | refine T_seq ?_ | (refine And.intro ?_ ?_; focus (intros; simp_all only [Bool.or_eq_false_iff, Bool.or_eq_true, Bool.and_eq_true, and_self, true_and, and_true]; done))
    congr 1
    rcases (Bool.or_eq_true _ _).mp hc with h1 | h1
    · rw [Bool.not_eq_true'] at h1; rw [h1]; rfl
    · rw [decide_eq_false (p := a.l.length ≤ 6) (by have := of_decide_eq_true h1; omega), Bool.and_false]; rfl
  obtain ⟨hH, h6⟩ := Bool.or_eq_false_iff.1 hc
  rw [Bool.not_eq_false'] at hH
  rw [hH, decide_eq_true (show a.l.length ≤ 6 by have := of_decide_eq_false h6; omega), Bool.and_self, Bool.true_and]
  repeat' first | refine T_seq_region rfl ?_ | refine T_region rfl ?_ | refine T_ret ?_ | refine T_block ?_ | refine T_skip ?_ | refine T_exit ?_ | (simp (maxSteps := 2000000) only [go_sem, Nat.reduceAdd, Nat.reduceMul, Nat.reduceBEq, Nat.reduceLeDiff, Nat.reduceLT, Nat.reduceEqDiff]; try rfl) | refine T_seq ?_ | (refine And.intro ?_ ?_; focus (intros; simp_all only [Bool.or_eq_false_iff, Bool.or_eq_true, Bool.and_eq_true, and_self, true_and, and_true]; done))
  refine T_loop (ι := Nat) (fun k => ⟨[(1, true, .c (.v a.val)), (2, true, .c (.p 0 0)), (17, true, .c (.v a.val)), (18, true, .c (.v (.int .i64 a.l.length))), (19, true, .c (.v (.int .i64 k)))], [(0, .box 103 [.v (.int .i64 x.forecast.tide.mean), .v x.forecast.tide.parts.val, .v x.forecast.surges.val, .v x.chart.points.val, .v x.chart.segments.val, .v x.fleet.val, .v (.int .i64 x.regime.gap), .v (.bool x.regime.noMeet), .v (.int .i64 x.crew.tugs), .v (.int .i64 x.crew.pilots), .v (.int .i64 x.crew.rest), .v x.crew.moves.val])], h, 1⟩) (fun k => k ≤ a.l.length ∧ ∀ i, i < k → clOk (Con.con x) a.l i = true) (fun k => a.l.length - k) 0 ⟨Nat.zero_le _, allN_zero ⟩ ?_ ?_
  · simp (maxSteps := 2000000) only [go_sem, Nat.reduceAdd, Nat.reduceMul, Nat.reduceBEq, Nat.reduceLeDiff, Nat.reduceLT, Nat.reduceEqDiff]
    first | exact rfl | exact ⟨rfl, rfl⟩ | exact ⟨rfl, rfl, rfl⟩ | exact ⟨rfl, rfl, rfl, rfl⟩ | exact ⟨rfl, rfl, rfl, rfl, rfl⟩
  intro k hk
  repeat' first | refine T_seq_region rfl ?_ | refine T_region rfl ?_ | refine T_ret ?_ | refine T_block ?_ | refine T_skip ?_ | refine T_exit ?_ | (simp (maxSteps := 2000000) only [go_sem, Nat.reduceAdd, Nat.reduceMul, Nat.reduceBEq, Nat.reduceLeDiff, Nat.reduceLT, Nat.reduceEqDiff]; try rfl) | refine T_seq ?_ | (refine And.intro ?_ ?_; focus (intros; simp_all only [Bool.or_eq_false_iff, Bool.or_eq_true, Bool.and_eq_true, and_self, true_and, and_true]; done))
  refine T_cond rfl (fun hd => ?_) (fun hd => ?_)
  · have hlt := lt_of_dec hd
    have hge := cget hlt
    repeat' first | refine T_seq_region rfl ?_ | refine T_region rfl ?_ | refine T_ret ?_ | refine T_block ?_ | refine T_skip ?_ | refine T_exit ?_ | refine vfn_val (fun _ => spec_CallOk_fn x _ _ hx (ha.el hlt)) ?_ | (simp (maxSteps := 2000000) only [go_sem, Nat.reduceAdd, Nat.reduceMul, Nat.reduceBEq, Nat.reduceLeDiff, Nat.reduceLT, Nat.reduceEqDiff, at_DCall ha hlt, ha.some hlt, hlt, Int.toNat_natCast]; try rfl) | refine T_seq ?_ | (refine And.intro ?_ ?_; focus (intros; simp_all only [Bool.or_eq_false_iff, Bool.or_eq_true, Bool.and_eq_true, and_self, true_and, and_true]; done))
    refine T_cond rfl (fun hq => ?_) (fun hq => ?_)
    · rw [Bool.not_eq_true'] at hq
      rw [F_CallOk, show (Con.con a.l[k] : DCall) = a.l[k] from rfl, hH, Bool.true_and] at hq
      repeat' first | refine T_seq_region rfl ?_ | refine T_region rfl ?_ | refine T_ret ?_ | refine T_block ?_ | refine T_skip ?_ | refine T_exit ?_ | (simp (maxSteps := 2000000) only [go_sem, Nat.reduceAdd, Nat.reduceMul, Nat.reduceBEq, Nat.reduceLeDiff, Nat.reduceLT, Nat.reduceEqDiff]; try rfl) | refine T_seq ?_ | (refine And.intro ?_ ?_; focus (intros; simp_all only [Bool.or_eq_false_iff, Bool.or_eq_true, Bool.and_eq_true, and_self, true_and, and_true]; done))
      rw [allN_false  hlt (by rw [clOk, hge, hq, Bool.false_and])]
    · rw [Bool.not_eq_false'] at hq
      rw [F_CallOk, show (Con.con a.l[k] : DCall) = a.l[k] from rfl, hH, Bool.true_and] at hq
      have hgo := Sl.to_ok ha k
      have hlt0 := Sl.to_len hk.1
      have hcap := ha.1
      repeat' first | refine T_seq_region rfl ?_ | refine T_region rfl ?_ | refine T_ret ?_ | refine T_block ?_ | refine T_skip ?_ | refine T_exit ?_ | (simp (maxSteps := 2000000) only [go_sem, Nat.reduceAdd, Nat.reduceMul, Nat.reduceBEq, Nat.reduceLeDiff, Nat.reduceLT, Nat.reduceEqDiff]; try rfl) | refine T_seq ?_ | (refine And.intro ?_ ?_; focus (intros; simp_all only [Bool.or_eq_false_iff, Bool.or_eq_true, Bool.and_eq_true, and_self, true_and, and_true]; done))
      refine ⟨by omega, ?_⟩
      simp only [Int.toNat_zero, Nat.sub_zero, Nat.zero_mul, add_zf, map_idf, ite_self]
      rw [slice_to hk.1]
      repeat' first | refine T_seq_region rfl ?_ | refine T_region rfl ?_ | refine T_ret ?_ | refine T_block ?_ | refine T_skip ?_ | refine T_exit ?_ | (simp (maxSteps := 2000000) only [go_sem, Nat.reduceAdd, Nat.reduceMul, Nat.reduceBEq, Nat.reduceLeDiff, Nat.reduceLT, Nat.reduceEqDiff]; try rfl) | refine T_seq ?_ | (refine And.intro ?_ ?_; focus (intros; simp_all only [Bool.or_eq_false_iff, Bool.or_eq_true, Bool.and_eq_true, and_self, true_and, and_true]; done))
      refine T_loop (ι := Nat) (fun j => ⟨[(1, true, .c (.v a.val)), (2, true, .c (.p 0 0)), (6, true, .c (.p 1 0)), (17, true, .c (.v a.val)), (18, true, .c (.v (.int .i64 a.l.length))), (19, true, .c (.v (.int .i64 k))), (30, true, .c (.v (a.to k).val)), (31, true, .c (.v (.int .i64 k))), (32, true, .c (.v (.int .i64 j)))], [(0, .box 103 [.v (.int .i64 x.forecast.tide.mean), .v x.forecast.tide.parts.val, .v x.forecast.surges.val, .v x.chart.points.val, .v x.chart.segments.val, .v x.fleet.val, .v (.int .i64 x.regime.gap), .v (.bool x.regime.noMeet), .v (.int .i64 x.crew.tugs), .v (.int .i64 x.crew.pilots), .v (.int .i64 x.crew.rest), .v x.crew.moves.val]), (1, .box 110 [.v (.int .i64 a.l[k].ship), .v (.int .i64 a.l[k].src), .v (.int .i64 a.l[k].dst), .v (.int .i64 a.l[k].ready), .v (.int .i64 a.l[k].due)])], h, 2⟩) (fun j => j ≤ k ∧ ∀ i, i < j → (a.l.getD i dC).ship ≠ a.l[k].ship) (fun j => k - j) 0 ⟨Nat.zero_le _, fun i hi => absurd hi (Nat.not_lt_zero _)⟩ ?_ ?_
      · simp (maxSteps := 2000000) only [go_sem, Nat.reduceAdd, Nat.reduceMul, Nat.reduceBEq, Nat.reduceLeDiff, Nat.reduceLT, Nat.reduceEqDiff]
        first | exact rfl | exact ⟨rfl, rfl⟩ | exact ⟨rfl, rfl, rfl⟩ | exact ⟨rfl, rfl, rfl, rfl⟩ | exact ⟨rfl, rfl, rfl, rfl, rfl⟩
      intro j hj
      repeat' first | refine T_seq_region rfl ?_ | refine T_region rfl ?_ | refine T_ret ?_ | refine T_block ?_ | refine T_skip ?_ | refine T_exit ?_ | (simp (maxSteps := 2000000) only [go_sem, Nat.reduceAdd, Nat.reduceMul, Nat.reduceBEq, Nat.reduceLeDiff, Nat.reduceLT, Nat.reduceEqDiff]; try rfl) | refine T_seq ?_ | (refine And.intro ?_ ?_; focus (intros; simp_all only [Bool.or_eq_false_iff, Bool.or_eq_true, Bool.and_eq_true, and_self, true_and, and_true]; done))
      refine T_cond rfl (fun hq2 => ?_) (fun hq2 => ?_)
      · have hltj := lt_of_dec hq2
        have hltj' : j < (a.to k).l.length := by omega
        have hltj2 : j < a.l.length := by omega
        have hje := Sl.to_get hltj' hltj2
        repeat' first | refine T_seq_region rfl ?_ | refine T_region rfl ?_ | refine T_ret ?_ | refine T_block ?_ | refine T_skip ?_ | refine T_exit ?_ | (simp (maxSteps := 2000000) only [go_sem, Nat.reduceAdd, Nat.reduceMul, Nat.reduceBEq, Nat.reduceLeDiff, Nat.reduceLT, Nat.reduceEqDiff, at_DCall hgo hltj', hgo.some hltj', hltj', hltj, Int.toNat_natCast, hje]; try rfl) | refine T_seq ?_ | (refine And.intro ?_ ?_; focus (intros; simp_all only [Bool.or_eq_false_iff, Bool.or_eq_true, Bool.and_eq_true, and_self, true_and, and_true]; done))
        refine T_cond rfl (fun hq3 => ?_) (fun hq3 => ?_)
        · have hq3 := eq_of_beq hq3
          repeat' first | refine T_seq_region rfl ?_ | refine T_region rfl ?_ | refine T_ret ?_ | refine T_block ?_ | refine T_skip ?_ | refine T_exit ?_ | (simp (maxSteps := 2000000) only [go_sem, Nat.reduceAdd, Nat.reduceMul, Nat.reduceBEq, Nat.reduceLeDiff, Nat.reduceLT, Nat.reduceEqDiff]; try rfl) | refine T_seq ?_ | (refine And.intro ?_ ?_; focus (intros; simp_all only [Bool.or_eq_false_iff, Bool.or_eq_true, Bool.and_eq_true, and_self, true_and, and_true]; done))
          rw [allN_false  hlt ?_]
          rw [clOk, hge, hq, Bool.true_and, caNew]
          refine decide_eq_false fun hh => hh j hltj ?_
          rw [cget hltj2, hge]; omega
        · have hq3 := beq_eq_false_iff_ne.1 hq3
          repeat' first | refine T_seq_region rfl ?_ | refine T_region rfl ?_ | refine T_ret ?_ | refine T_block ?_ | refine T_skip ?_ | refine T_exit ?_ | (simp (maxSteps := 2000000) only [go_sem, Nat.reduceAdd, Nat.reduceMul, Nat.reduceBEq, Nat.reduceLeDiff, Nat.reduceLT, Nat.reduceEqDiff]; try rfl) | refine T_seq ?_ | (refine And.intro ?_ ?_; focus (intros; simp_all only [Bool.or_eq_false_iff, Bool.or_eq_true, Bool.and_eq_true, and_self, true_and, and_true]; done))
          refine ⟨j + 1, ⟨hltj, fun i hi => ?_⟩, by omega, svInt (wrapS hltj (by omega))⟩
          rcases Nat.lt_succ_iff_lt_or_eq.1 hi with hi | rfl
          · exact hj.2 i hi
          · rw [cget hltj2]; omega
      · have hgej := ge_of_dec hq2
        repeat' first | refine T_seq_region rfl ?_ | refine T_region rfl ?_ | refine T_ret ?_ | refine T_block ?_ | refine T_skip ?_ | refine T_exit ?_ | (simp (maxSteps := 2000000) only [go_sem, Nat.reduceAdd, Nat.reduceMul, Nat.reduceBEq, Nat.reduceLeDiff, Nat.reduceLT, Nat.reduceEqDiff]; try rfl) | refine T_seq ?_ | (refine And.intro ?_ ?_; focus (intros; simp_all only [Bool.or_eq_false_iff, Bool.or_eq_true, Bool.and_eq_true, and_self, true_and, and_true]; done))
        refine ⟨k + 1, ⟨hlt, allN_next  hk.2 ?_⟩, by omega, svInt (wrapS hlt (by omega))⟩
        rw [clOk, hge, hq, Bool.true_and, caNew]
        refine decide_eq_true fun i hi => ?_
        rw [hge]; exact hj.2 i (by omega)
  · have hge := ge_of_dec hd
    repeat' first | refine T_seq_region rfl ?_ | refine T_region rfl ?_ | refine T_ret ?_ | refine T_block ?_ | refine T_skip ?_ | refine T_exit ?_ | (simp (maxSteps := 2000000) only [go_sem, Nat.reduceAdd, Nat.reduceMul, Nat.reduceBEq, Nat.reduceLeDiff, Nat.reduceLT, Nat.reduceEqDiff]; try rfl) | refine T_seq ?_ | (refine And.intro ?_ ?_; focus (intros; simp_all only [Bool.or_eq_false_iff, Bool.or_eq_true, Bool.and_eq_true, and_self, true_and, and_true]; done))
    rw [allN_done  hge hk.2]

theorem impl_CallsOk_fn (x : DHarbour) (a : Sl DCall) (h : Hp) (hx : Enc.ok h x) (ha : Enc.ok h a) : Ct Try.prog 61 [x.v, a.val] h fun v h' => v = .bool (F_CallsOk (Con.con x) (Con.con a)) ∧ h' = h := by
  have ha : a.Ok h := ha
  have hl := ha.max
  rw [F_CallsOk, con_calll]
  refine Ct_of_T (fun A W => by simp) Try.func61 rfl rfl (by simp) fun W0 => ?_
  repeat' first | refine T_seq_region rfl ?_ | refine T_region rfl ?_ | refine T_ret ?_ | refine T_block ?_ | refine T_skip ?_ | refine T_exit ?_ | refine vfn_val (fun _ => impl_HarbourOk_fn x _ hx) ?_ | (simp (maxSteps := 2000000) only [go_sem, Nat.reduceAdd, Nat.reduceMul, Nat.reduceBEq, Nat.reduceLeDiff, Nat.reduceLT, Nat.reduceEqDiff]; try rfl) | refine T_seq ?_ | (refine And.intro ?_ ?_; focus (intros; simp_all only [Bool.or_eq_false_iff, Bool.or_eq_true, Bool.and_eq_true, and_self, true_and, and_true]; done))
  refine T_cond rfl (fun hc => ?_) (fun hc => ?_)
  · repeat' first | refine T_seq_region rfl ?_ | refine T_region rfl ?_ | refine T_ret ?_ | refine T_block ?_ | refine T_skip ?_ | refine T_exit ?_ | (simp (maxSteps := 2000000) only [go_sem, Nat.reduceAdd, Nat.reduceMul, Nat.reduceBEq, Nat.reduceLeDiff, Nat.reduceLT, Nat.reduceEqDiff]; try rfl) | refine T_seq ?_ | (refine And.intro ?_ ?_; focus (intros; simp_all only [Bool.or_eq_false_iff, Bool.or_eq_true, Bool.and_eq_true, and_self, true_and, and_true]; done))
    congr 1
    rcases (Bool.or_eq_true _ _).mp hc with h1 | h1
    · rw [Bool.not_eq_true'] at h1; rw [h1]; rfl
    · rw [decide_eq_false (p := a.l.length ≤ 6) (by have := of_decide_eq_true h1; omega), Bool.and_false]; rfl
  obtain ⟨hH, h6⟩ := Bool.or_eq_false_iff.1 hc
  rw [Bool.not_eq_false'] at hH
  rw [hH, decide_eq_true (show a.l.length ≤ 6 by have := of_decide_eq_false h6; omega), Bool.and_self, Bool.true_and]
  repeat' first | refine T_seq_region rfl ?_ | refine T_region rfl ?_ | refine T_ret ?_ | refine T_block ?_ | refine T_skip ?_ | refine T_exit ?_ | (simp (maxSteps := 2000000) only [go_sem, Nat.reduceAdd, Nat.reduceMul, Nat.reduceBEq, Nat.reduceLeDiff, Nat.reduceLT, Nat.reduceEqDiff]; try rfl) | refine T_seq ?_ | (refine And.intro ?_ ?_; focus (intros; simp_all only [Bool.or_eq_false_iff, Bool.or_eq_true, Bool.and_eq_true, and_self, true_and, and_true]; done))
  refine T_loop (ι := Nat) (fun k => ⟨[(1, true, .c (.v a.val)), (2, true, .c (.p 0 0)), (17, true, .c (.v a.val)), (18, true, .c (.v (.int .i64 a.l.length))), (19, true, .c (.v (.int .i64 k)))], [(0, .box 103 [.v (.int .i64 x.forecast.tide.mean), .v x.forecast.tide.parts.val, .v x.forecast.surges.val, .v x.chart.points.val, .v x.chart.segments.val, .v x.fleet.val, .v (.int .i64 x.regime.gap), .v (.bool x.regime.noMeet), .v (.int .i64 x.crew.tugs), .v (.int .i64 x.crew.pilots), .v (.int .i64 x.crew.rest), .v x.crew.moves.val])], h, 1⟩) (fun k => k ≤ a.l.length ∧ ∀ i, i < k → clOk (Con.con x) a.l i = true) (fun k => a.l.length - k) 0 ⟨Nat.zero_le _, allN_zero ⟩ ?_ ?_
  · simp (maxSteps := 2000000) only [go_sem, Nat.reduceAdd, Nat.reduceMul, Nat.reduceBEq, Nat.reduceLeDiff, Nat.reduceLT, Nat.reduceEqDiff]
    first | exact rfl | exact ⟨rfl, rfl⟩ | exact ⟨rfl, rfl, rfl⟩ | exact ⟨rfl, rfl, rfl, rfl⟩ | exact ⟨rfl, rfl, rfl, rfl, rfl⟩
  intro k hk
  repeat' first | refine T_seq_region rfl ?_ | refine T_region rfl ?_ | refine T_ret ?_ | refine T_block ?_ | refine T_skip ?_ | refine T_exit ?_ | (simp (maxSteps := 2000000) only [go_sem, Nat.reduceAdd, Nat.reduceMul, Nat.reduceBEq, Nat.reduceLeDiff, Nat.reduceLT, Nat.reduceEqDiff]; try rfl) | refine T_seq ?_ | (refine And.intro ?_ ?_; focus (intros; simp_all only [Bool.or_eq_false_iff, Bool.or_eq_true, Bool.and_eq_true, and_self, true_and, and_true]; done))
  refine T_cond rfl (fun hd => ?_) (fun hd => ?_)
  · have hlt := lt_of_dec hd
    have hge := cget hlt
    repeat' first | refine T_seq_region rfl ?_ | refine T_region rfl ?_ | refine T_ret ?_ | refine T_block ?_ | refine T_skip ?_ | refine T_exit ?_ | refine vfn_val (fun _ => impl_callOk_fn x _ _ hx) ?_ | (simp (maxSteps := 2000000) only [go_sem, Nat.reduceAdd, Nat.reduceMul, Nat.reduceBEq, Nat.reduceLeDiff, Nat.reduceLT, Nat.reduceEqDiff, at_DCall ha hlt, ha.some hlt, hlt, Int.toNat_natCast]; try rfl) | refine T_seq ?_ | (refine And.intro ?_ ?_; focus (intros; simp_all only [Bool.or_eq_false_iff, Bool.or_eq_true, Bool.and_eq_true, and_self, true_and, and_true]; done))
    refine T_cond rfl (fun hq => ?_) (fun hq => ?_)
    · rw [Bool.not_eq_true'] at hq
      skip
      repeat' first | refine T_seq_region rfl ?_ | refine T_region rfl ?_ | refine T_ret ?_ | refine T_block ?_ | refine T_skip ?_ | refine T_exit ?_ | (simp (maxSteps := 2000000) only [go_sem, Nat.reduceAdd, Nat.reduceMul, Nat.reduceBEq, Nat.reduceLeDiff, Nat.reduceLT, Nat.reduceEqDiff]; try rfl) | refine T_seq ?_ | (refine And.intro ?_ ?_; focus (intros; simp_all only [Bool.or_eq_false_iff, Bool.or_eq_true, Bool.and_eq_true, and_self, true_and, and_true]; done))
      rw [allN_false  hlt (by rw [clOk, hge, hq, Bool.false_and])]
    · rw [Bool.not_eq_false'] at hq
      skip
      have hgo := Sl.to_ok ha k
      have hlt0 := Sl.to_len hk.1
      have hcap := ha.1
      repeat' first | refine T_seq_region rfl ?_ | refine T_region rfl ?_ | refine T_ret ?_ | refine T_block ?_ | refine T_skip ?_ | refine T_exit ?_ | (simp (maxSteps := 2000000) only [go_sem, Nat.reduceAdd, Nat.reduceMul, Nat.reduceBEq, Nat.reduceLeDiff, Nat.reduceLT, Nat.reduceEqDiff]; try rfl) | refine T_seq ?_ | (refine And.intro ?_ ?_; focus (intros; simp_all only [Bool.or_eq_false_iff, Bool.or_eq_true, Bool.and_eq_true, and_self, true_and, and_true]; done))
      refine ⟨by omega, ?_⟩
      simp only [Int.toNat_zero, Nat.sub_zero, Nat.zero_mul, add_zf, map_idf, ite_self]
      rw [slice_to hk.1]
      repeat' first | refine T_seq_region rfl ?_ | refine T_region rfl ?_ | refine T_ret ?_ | refine T_block ?_ | refine T_skip ?_ | refine T_exit ?_ | (simp (maxSteps := 2000000) only [go_sem, Nat.reduceAdd, Nat.reduceMul, Nat.reduceBEq, Nat.reduceLeDiff, Nat.reduceLT, Nat.reduceEqDiff]; try rfl) | refine T_seq ?_ | (refine And.intro ?_ ?_; focus (intros; simp_all only [Bool.or_eq_false_iff, Bool.or_eq_true, Bool.and_eq_true, and_self, true_and, and_true]; done))
      refine T_loop (ι := Nat) (fun j => ⟨[(1, true, .c (.v a.val)), (2, true, .c (.p 0 0)), (6, true, .c (.p 1 0)), (17, true, .c (.v a.val)), (18, true, .c (.v (.int .i64 a.l.length))), (19, true, .c (.v (.int .i64 k))), (30, true, .c (.v (a.to k).val)), (31, true, .c (.v (.int .i64 k))), (32, true, .c (.v (.int .i64 j)))], [(0, .box 103 [.v (.int .i64 x.forecast.tide.mean), .v x.forecast.tide.parts.val, .v x.forecast.surges.val, .v x.chart.points.val, .v x.chart.segments.val, .v x.fleet.val, .v (.int .i64 x.regime.gap), .v (.bool x.regime.noMeet), .v (.int .i64 x.crew.tugs), .v (.int .i64 x.crew.pilots), .v (.int .i64 x.crew.rest), .v x.crew.moves.val]), (1, .box 110 [.v (.int .i64 a.l[k].ship), .v (.int .i64 a.l[k].src), .v (.int .i64 a.l[k].dst), .v (.int .i64 a.l[k].ready), .v (.int .i64 a.l[k].due)])], h, 2⟩) (fun j => j ≤ k ∧ ∀ i, i < j → (a.l.getD i dC).ship ≠ a.l[k].ship) (fun j => k - j) 0 ⟨Nat.zero_le _, fun i hi => absurd hi (Nat.not_lt_zero _)⟩ ?_ ?_
      · simp (maxSteps := 2000000) only [go_sem, Nat.reduceAdd, Nat.reduceMul, Nat.reduceBEq, Nat.reduceLeDiff, Nat.reduceLT, Nat.reduceEqDiff]
        first | exact rfl | exact ⟨rfl, rfl⟩ | exact ⟨rfl, rfl, rfl⟩ | exact ⟨rfl, rfl, rfl, rfl⟩ | exact ⟨rfl, rfl, rfl, rfl, rfl⟩
      intro j hj
      repeat' first | refine T_seq_region rfl ?_ | refine T_region rfl ?_ | refine T_ret ?_ | refine T_block ?_ | refine T_skip ?_ | refine T_exit ?_ | (simp (maxSteps := 2000000) only [go_sem, Nat.reduceAdd, Nat.reduceMul, Nat.reduceBEq, Nat.reduceLeDiff, Nat.reduceLT, Nat.reduceEqDiff]; try rfl) | refine T_seq ?_ | (refine And.intro ?_ ?_; focus (intros; simp_all only [Bool.or_eq_false_iff, Bool.or_eq_true, Bool.and_eq_true, and_self, true_and, and_true]; done))
      refine T_cond rfl (fun hq2 => ?_) (fun hq2 => ?_)
      · have hltj := lt_of_dec hq2
        have hltj' : j < (a.to k).l.length := by omega
        have hltj2 : j < a.l.length := by omega
        have hje := Sl.to_get hltj' hltj2
        repeat' first | refine T_seq_region rfl ?_ | refine T_region rfl ?_ | refine T_ret ?_ | refine T_block ?_ | refine T_skip ?_ | refine T_exit ?_ | (simp (maxSteps := 2000000) only [go_sem, Nat.reduceAdd, Nat.reduceMul, Nat.reduceBEq, Nat.reduceLeDiff, Nat.reduceLT, Nat.reduceEqDiff, at_DCall hgo hltj', hgo.some hltj', hltj', hltj, Int.toNat_natCast, hje]; try rfl) | refine T_seq ?_ | (refine And.intro ?_ ?_; focus (intros; simp_all only [Bool.or_eq_false_iff, Bool.or_eq_true, Bool.and_eq_true, and_self, true_and, and_true]; done))
        refine T_cond rfl (fun hq3 => ?_) (fun hq3 => ?_)
        · have hq3 := eq_of_beq hq3
          repeat' first | refine T_seq_region rfl ?_ | refine T_region rfl ?_ | refine T_ret ?_ | refine T_block ?_ | refine T_skip ?_ | refine T_exit ?_ | (simp (maxSteps := 2000000) only [go_sem, Nat.reduceAdd, Nat.reduceMul, Nat.reduceBEq, Nat.reduceLeDiff, Nat.reduceLT, Nat.reduceEqDiff]; try rfl) | refine T_seq ?_ | (refine And.intro ?_ ?_; focus (intros; simp_all only [Bool.or_eq_false_iff, Bool.or_eq_true, Bool.and_eq_true, and_self, true_and, and_true]; done))
          rw [allN_false  hlt ?_]
          rw [clOk, hge, hq, Bool.true_and, caNew]
          refine decide_eq_false fun hh => hh j hltj ?_
          rw [cget hltj2, hge]; omega
        · have hq3 := beq_eq_false_iff_ne.1 hq3
          repeat' first | refine T_seq_region rfl ?_ | refine T_region rfl ?_ | refine T_ret ?_ | refine T_block ?_ | refine T_skip ?_ | refine T_exit ?_ | (simp (maxSteps := 2000000) only [go_sem, Nat.reduceAdd, Nat.reduceMul, Nat.reduceBEq, Nat.reduceLeDiff, Nat.reduceLT, Nat.reduceEqDiff]; try rfl) | refine T_seq ?_ | (refine And.intro ?_ ?_; focus (intros; simp_all only [Bool.or_eq_false_iff, Bool.or_eq_true, Bool.and_eq_true, and_self, true_and, and_true]; done))
          refine ⟨j + 1, ⟨hltj, fun i hi => ?_⟩, by omega, svInt (wrapS hltj (by omega))⟩
          rcases Nat.lt_succ_iff_lt_or_eq.1 hi with hi | rfl
          · exact hj.2 i hi
          · rw [cget hltj2]; omega
      · have hgej := ge_of_dec hq2
        repeat' first | refine T_seq_region rfl ?_ | refine T_region rfl ?_ | refine T_ret ?_ | refine T_block ?_ | refine T_skip ?_ | refine T_exit ?_ | (simp (maxSteps := 2000000) only [go_sem, Nat.reduceAdd, Nat.reduceMul, Nat.reduceBEq, Nat.reduceLeDiff, Nat.reduceLT, Nat.reduceEqDiff]; try rfl) | refine T_seq ?_ | (refine And.intro ?_ ?_; focus (intros; simp_all only [Bool.or_eq_false_iff, Bool.or_eq_true, Bool.and_eq_true, and_self, true_and, and_true]; done))
        refine ⟨k + 1, ⟨hlt, allN_next  hk.2 ?_⟩, by omega, svInt (wrapS hlt (by omega))⟩
        rw [clOk, hge, hq, Bool.true_and, caNew]
        refine decide_eq_true fun i hi => ?_
        rw [hge]; exact hj.2 i (by omega)
  · have hge := ge_of_dec hd
    repeat' first | refine T_seq_region rfl ?_ | refine T_region rfl ?_ | refine T_ret ?_ | refine T_block ?_ | refine T_skip ?_ | refine T_exit ?_ | (simp (maxSteps := 2000000) only [go_sem, Nat.reduceAdd, Nat.reduceMul, Nat.reduceBEq, Nat.reduceLeDiff, Nat.reduceLT, Nat.reduceEqDiff]; try rfl) | refine T_seq ?_ | (refine And.intro ?_ ?_; focus (intros; simp_all only [Bool.or_eq_false_iff, Bool.or_eq_true, Bool.and_eq_true, and_self, true_and, and_true]; done))
    rw [allN_done  hge hk.2]
end Go.Proofs.Ytfbdafdbinbeaaa
