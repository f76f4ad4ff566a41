/- What functions of the given program compute, each as a contract over what its arguments read as. No condition beside those that each theorem states. -/
import Derived.Test.YtfbdafdbinbeaaaOpt2
set_option linter.unusedVariables false
set_option linter.unusedSimpArgs false
namespace Go.Proofs.Ytfbdafdbinbeaaa
open Go Go.SL
set_option maxHeartbeats 1000000

def pickGo (lt : Int → Int → Bool) (l : List Int) : Nat → Int
  | 0 => 0
  | k + 1 => if k = 0 ∨ lt (l.getD k 0) (pickGo lt l k) = true then l.getD k 0 else pickGo lt l k
def F_LeastCost (g : PStrategy) : Int := pickGo (fun a b => decide (a < b)) (g.branches.map fun b => F_CostOf b.plan) g.branches.length
def F_WorstCost (g : PStrategy) : Int := pickGo (fun a b => decide (b < a)) (g.branches.map fun b => F_CostOf b.plan) g.branches.length
def brCosts (l : List DBranch) : List Int := l.map fun b => F_CostOf (Con.con b.plan)
theorem brCosts_con (s : Sl DBranch) : (Con.con s).map (fun b => F_CostOf b.plan) = brCosts s.l := by rw [con_sl, List.map_map]; rfl
theorem brCosts_get {l : List DBranch} {k : Nat} (hk : k < l.length) : (brCosts l).getD k 0 = F_CostOf (Con.con l[k].plan) := by simp [brCosts, List.getD_eq_getElem?_getD, hk]
theorem F_LeastCost_def (g : DStrategy) : F_LeastCost (Con.con g) = pickGo (fun a b => decide (a < b)) (brCosts g.branches.l) g.branches.l.length := by
  unfold F_LeastCost
  rw [show (Con.con g).branches = Con.con g.branches from rfl, brCosts_con, con_len']
theorem F_WorstCost_def (g : DStrategy) : F_WorstCost (Con.con g) = pickGo (fun a b => decide (b < a)) (brCosts g.branches.l) g.branches.l.length := by
  unfold F_WorstCost
  rw [show (Con.con g).branches = Con.con g.branches from rfl, brCosts_con, con_len']
theorem pick_take {lt : Int → Int → Bool} {l : List Int} {k : Nat} (h : k = 0 ∨ lt (l.getD k 0) (pickGo lt l k) = true) : pickGo lt l (k + 1) = l.getD k 0 := by
  show (if _ then _ else _) = _
  rw [if_pos h]
theorem pick_keep {lt : Int → Int → Bool} {l : List Int} {k : Nat} (h : ¬ (k = 0 ∨ lt (l.getD k 0) (pickGo lt l k) = true)) : pickGo lt l (k + 1) = pickGo lt l k := by
  show (if _ then _ else _) = _
  rw [if_neg h]

theorem spec_LeastCost_fn (g : DStrategy) (h : Hp) (hg : Enc.ok h g) : Ct Try.prog 26 [g.v] h fun v h' => v = .int .i64 (F_LeastCost (Con.con g)) ∧ h' = h := by
  have hb := hg.2
  have hl := hb.max
  rw [F_LeastCost_def]
  refine Ct_of_T (fun A W => by simp) Try.func26 rfl rfl (by simp) fun W0 => ?_
  repeat' first | refine T_seq_region rfl ?_ | refine T_region rfl ?_ | refine T_ret ?_ | refine T_block ?_ | refine T_skip ?_ | refine T_exit ?_ | (simp (maxSteps := 2000000) only [go_sem, Nat.reduceAdd, Nat.reduceMul, Nat.reduceBEq, Nat.reduceLeDiff, Nat.reduceLT, Nat.reduceEqDiff]; try rfl) | refine T_seq ?_ | (refine And.intro ?_ ?_; focus (intros; simp_all only [Bool.or_eq_false_iff, Bool.or_eq_true, Bool.and_eq_true, and_self, true_and, and_true]; done))
  refine T_loop (ι := Nat) (fun k => ⟨[(3, true, .c (.v (.int .i64 (pickGo (fun a b => decide (a < b)) (brCosts g.branches.l) k)))), (7, true, .c (.v g.branches.val)), (8, true, .c (.v (.int .i64 g.branches.l.length))), (9, true, .c (.v (.int .i64 k)))], [], h, 1⟩) (fun k => k ≤ g.branches.l.length) (fun k => g.branches.l.length - k) 0 (Nat.zero_le _) ?_ ?_
  · simp (maxSteps := 2000000) only [go_sem, Nat.reduceAdd, Nat.reduceMul, Nat.reduceBEq, Nat.reduceLeDiff, Nat.reduceLT, Nat.reduceEqDiff]
    first | exact rfl | exact ⟨rfl, rfl⟩ | exact ⟨rfl, rfl, rfl⟩ | exact ⟨rfl, rfl, rfl, rfl⟩ | exact ⟨rfl, rfl, rfl, rfl, rfl⟩
  intro k hk
  repeat' first | refine T_seq_region rfl ?_ | refine T_region rfl ?_ | refine T_ret ?_ | refine T_block ?_ | refine T_skip ?_ | refine T_exit ?_ | (simp (maxSteps := 2000000) only [go_sem, Nat.reduceAdd, Nat.reduceMul, Nat.reduceBEq, Nat.reduceLeDiff, Nat.reduceLT, Nat.reduceEqDiff]; try rfl) | refine T_seq ?_ | (refine And.intro ?_ ?_; focus (intros; simp_all only [Bool.or_eq_false_iff, Bool.or_eq_true, Bool.and_eq_true, and_self, true_and, and_true]; done))
  refine T_cond rfl (fun hd => ?_) (fun hd => ?_)
  · have hlt := lt_of_dec hd
    have hpl := (hb.el hlt).2.2
    have hcg := brCosts_get hlt
    repeat' first | refine T_seq_region rfl ?_ | refine T_region rfl ?_ | refine T_ret ?_ | refine T_block ?_ | refine T_skip ?_ | refine T_exit ?_ | refine vfn_val (fun _ => spec_CostOf_fn _ _ hpl) ?_ | (simp (maxSteps := 2000000) only [go_sem, Nat.reduceAdd, Nat.reduceMul, Nat.reduceBEq, Nat.reduceLeDiff, Nat.reduceLT, Nat.reduceEqDiff, at_DBranch hb hlt, hb.some hlt, hlt, Int.toNat_natCast]; try rfl) | refine T_seq ?_ | (refine And.intro ?_ ?_; focus (intros; simp_all only [Bool.or_eq_false_iff, Bool.or_eq_true, Bool.and_eq_true, and_self, true_and, and_true]; done))
    refine T_cond rfl (fun hq => ?_) (fun hq => ?_)
    · repeat' first | refine T_seq_region rfl ?_ | refine T_region rfl ?_ | refine T_ret ?_ | refine T_block ?_ | refine T_skip ?_ | refine T_exit ?_ | refine vfn_val (fun _ => spec_CostOf_fn _ _ hpl) ?_ | (simp (maxSteps := 2000000) only [go_sem, Nat.reduceAdd, Nat.reduceMul, Nat.reduceBEq, Nat.reduceLeDiff, Nat.reduceLT, Nat.reduceEqDiff, at_DBranch hb hlt, hb.some hlt, hlt, Int.toNat_natCast]; try rfl) | refine T_seq ?_ | (refine And.intro ?_ ?_; focus (intros; simp_all only [Bool.or_eq_false_iff, Bool.or_eq_true, Bool.and_eq_true, and_self, true_and, and_true]; done))
      refine ⟨k + 1, hlt, by omega, svInt ?_, svInt (wrapS hlt (by omega))⟩
      rw [pick_take, hcg]
      rcases (Bool.or_eq_true _ _).mp hq with h1 | h1
      · have := eq_of_beq h1; left; omega
      · right; rw [hcg]; exact decide_eq_true (of_decide_eq_true h1)
    · repeat' first | refine T_seq_region rfl ?_ | refine T_region rfl ?_ | refine T_ret ?_ | refine T_block ?_ | refine T_skip ?_ | refine T_exit ?_ | (simp (maxSteps := 2000000) only [go_sem, Nat.reduceAdd, Nat.reduceMul, Nat.reduceBEq, Nat.reduceLeDiff, Nat.reduceLT, Nat.reduceEqDiff]; try rfl) | refine T_seq ?_ | (refine And.intro ?_ ?_; focus (intros; simp_all only [Bool.or_eq_false_iff, Bool.or_eq_true, Bool.and_eq_true, and_self, true_and, and_true]; done))
      obtain ⟨h1, h2⟩ := Bool.or_eq_false_iff.1 hq
      refine ⟨k + 1, hlt, by omega, svInt ?_, svInt (wrapS hlt (by omega))⟩
      rw [pick_keep]
      rintro (h3 | h3)
      · exact beq_eq_false_iff_ne.1 h1 (by omega)
      · rw [hcg] at h3; exact of_decide_eq_false h2 (of_decide_eq_true h3)
  · have hge := ge_of_dec hd
    repeat' first | refine T_seq_region rfl ?_ | refine T_region rfl ?_ | refine T_ret ?_ | refine T_block ?_ | refine T_skip ?_ | refine T_exit ?_ | (simp (maxSteps := 2000000) only [go_sem, Nat.reduceAdd, Nat.reduceMul, Nat.reduceBEq, Nat.reduceLeDiff, Nat.reduceLT, Nat.reduceEqDiff]; try rfl) | refine T_seq ?_ | (refine And.intro ?_ ?_; focus (intros; simp_all only [Bool.or_eq_false_iff, Bool.or_eq_true, Bool.and_eq_true, and_self, true_and, and_true]; done))
    rw [Nat.le_antisymm hk hge]

theorem impl_LeastCost_fn (g : DStrategy) (h : Hp) (hg : Enc.ok h g) : Ct Try.prog 27 [g.v] h fun v h' => v = .int .i64 (F_LeastCost (Con.con g)) ∧ h' = h := by
  have hb := hg.2
  have hl := hb.max
  rw [F_LeastCost_def]
  refine Ct_of_T (fun A W => by simp) Try.func27 rfl rfl (by simp) fun W0 => ?_
  repeat' first | refine T_seq_region rfl ?_ | refine T_region rfl ?_ | refine T_ret ?_ | refine T_block ?_ | refine T_skip ?_ | refine T_exit ?_ | (simp (maxSteps := 2000000) only [go_sem, Nat.reduceAdd, Nat.reduceMul, Nat.reduceBEq, Nat.reduceLeDiff, Nat.reduceLT, Nat.reduceEqDiff]; try rfl) | refine T_seq ?_ | (refine And.intro ?_ ?_; focus (intros; simp_all only [Bool.or_eq_false_iff, Bool.or_eq_true, Bool.and_eq_true, and_self, true_and, and_true]; done))
  refine T_loop (ι := Nat) (fun k => ⟨[(3, true, .c (.v (.int .i64 (pickGo (fun a b => decide (a < b)) (brCosts g.branches.l) k)))), (7, true, .c (.v g.branches.val)), (8, true, .c (.v (.int .i64 g.branches.l.length))), (9, true, .c (.v (.int .i64 k)))], [], h, 1⟩) (fun k => k ≤ g.branches.l.length) (fun k => g.branches.l.length - k) 0 (Nat.zero_le _) ?_ ?_
  · simp (maxSteps := 2000000) only [go_sem, Nat.reduceAdd, Nat.reduceMul, Nat.reduceBEq, Nat.reduceLeDiff, Nat.reduceLT, Nat.reduceEqDiff]
    first | exact rfl | exact ⟨rfl, rfl⟩ | exact ⟨rfl, rfl, rfl⟩ | exact ⟨rfl, rfl, rfl, rfl⟩ | exact ⟨rfl, rfl, rfl, rfl, rfl⟩
  intro k hk
  repeat' first | refine T_seq_region rfl ?_ | refine T_region rfl ?_ | refine T_ret ?_ | refine T_block ?_ | refine T_skip ?_ | refine T_exit ?_ | (simp (maxSteps := 2000000) only [go_sem, Nat.reduceAdd, Nat.reduceMul, Nat.reduceBEq, Nat.reduceLeDiff, Nat.reduceLT, Nat.reduceEqDiff]; try rfl) | refine T_seq ?_ | (refine And.intro ?_ ?_; focus (intros; simp_all only [Bool.or_eq_false_iff, Bool.or_eq_true, Bool.and_eq_true, and_self, true_and, and_true]; done))
  refine T_cond rfl (fun hd => ?_) (fun hd => ?_)
  · have hlt := lt_of_dec hd
    have hpl := (hb.el hlt).2.2
    have hcg := brCosts_get hlt
    repeat' first | refine T_seq_region rfl ?_ | refine T_region rfl ?_ | refine T_ret ?_ | refine T_block ?_ | refine T_skip ?_ | refine T_exit ?_ | refine vfn_val (fun _ => impl_CostOf_fn _ _ hpl) ?_ | (simp (maxSteps := 2000000) only [go_sem, Nat.reduceAdd, Nat.reduceMul, Nat.reduceBEq, Nat.reduceLeDiff, Nat.reduceLT, Nat.reduceEqDiff, at_DBranch hb hlt, hb.some hlt, hlt, Int.toNat_natCast]; try rfl) | refine T_seq ?_ | (refine And.intro ?_ ?_; focus (intros; simp_all only [Bool.or_eq_false_iff, Bool.or_eq_true, Bool.and_eq_true, and_self, true_and, and_true]; done))
    refine T_cond rfl (fun hq => ?_) (fun hq => ?_)
    · repeat' first | refine T_seq_region rfl ?_ | refine T_region rfl ?_ | refine T_ret ?_ | refine T_block ?_ | refine T_skip ?_ | refine T_exit ?_ | refine vfn_val (fun _ => impl_CostOf_fn _ _ hpl) ?_ | (simp (maxSteps := 2000000) only [go_sem, Nat.reduceAdd, Nat.reduceMul, Nat.reduceBEq, Nat.reduceLeDiff, Nat.reduceLT, Nat.reduceEqDiff, at_DBranch hb hlt, hb.some hlt, hlt, Int.toNat_natCast]; try rfl) | refine T_seq ?_ | (refine And.intro ?_ ?_; focus (intros; simp_all only [Bool.or_eq_false_iff, Bool.or_eq_true, Bool.and_eq_true, and_self, true_and, and_true]; done))
      refine ⟨k + 1, hlt, by omega, svInt ?_, svInt (wrapS hlt (by omega))⟩
      rw [pick_take, hcg]
      rcases (Bool.or_eq_true _ _).mp hq with h1 | h1
      · have := eq_of_beq h1; left; omega
      · right; rw [hcg]; exact decide_eq_true (of_decide_eq_true h1)
    · repeat' first | refine T_seq_region rfl ?_ | refine T_region rfl ?_ | refine T_ret ?_ | refine T_block ?_ | refine T_skip ?_ | refine T_exit ?_ | (simp (maxSteps := 2000000) only [go_sem, Nat.reduceAdd, Nat.reduceMul, Nat.reduceBEq, Nat.reduceLeDiff, Nat.reduceLT, Nat.reduceEqDiff]; try rfl) | refine T_seq ?_ | (refine And.intro ?_ ?_; focus (intros; simp_all only [Bool.or_eq_false_iff, Bool.or_eq_true, Bool.and_eq_true, and_self, true_and, and_true]; done))
      obtain ⟨h1, h2⟩ := Bool.or_eq_false_iff.1 hq
      refine ⟨k + 1, hlt, by omega, svInt ?_, svInt (wrapS hlt (by omega))⟩
      rw [pick_keep]
      rintro (h3 | h3)
      · exact beq_eq_false_iff_ne.1 h1 (by omega)
      · rw [hcg] at h3; exact of_decide_eq_false h2 (of_decide_eq_true h3)
  · have hge := ge_of_dec hd
    repeat' first | refine T_seq_region rfl ?_ | refine T_region rfl ?_ | refine T_ret ?_ | refine T_block ?_ | refine T_skip ?_ | refine T_exit ?_ | (simp (maxSteps := 2000000) only [go_sem, Nat.reduceAdd, Nat.reduceMul, Nat.reduceBEq, Nat.reduceLeDiff, Nat.reduceLT, Nat.reduceEqDiff]; try rfl) | refine T_seq ?_ | (refine And.intro ?_ ?_; focus (intros; simp_all only [Bool.or_eq_false_iff, Bool.or_eq_true, Bool.and_eq_true, and_self, true_and, and_true]; done))
    rw [Nat.le_antisymm hk hge]

theorem spec_WorstCost_fn (g : DStrategy) (h : Hp) (hg : Enc.ok h g) : Ct Try.prog 28 [g.v] h fun v h' => v = .int .i64 (F_WorstCost (Con.con g)) ∧ h' = h := by
  have hb := hg.2
  have hl := hb.max
  rw [F_WorstCost_def]
  refine Ct_of_T (fun A W => by simp) Try.func28 rfl rfl (by simp) fun W0 => ?_
  repeat' first | refine T_seq_region rfl ?_ | refine T_region rfl ?_ | refine T_ret ?_ | refine T_block ?_ | refine T_skip ?_ | refine T_exit ?_ | (simp (maxSteps := 2000000) only [go_sem, Nat.reduceAdd, Nat.reduceMul, Nat.reduceBEq, Nat.reduceLeDiff, Nat.reduceLT, Nat.reduceEqDiff]; try rfl) | refine T_seq ?_ | (refine And.intro ?_ ?_; focus (intros; simp_all only [Bool.or_eq_false_iff, Bool.or_eq_true, Bool.and_eq_true, and_self, true_and, and_true]; done))
  refine T_loop (ι := Nat) (fun k => ⟨[(3, true, .c (.v (.int .i64 (pickGo (fun a b => decide (b < a)) (brCosts g.branches.l) k)))), (7, true, .c (.v g.branches.val)), (8, true, .c (.v (.int .i64 g.branches.l.length))), (9, true, .c (.v (.int .i64 k)))], [], h, 1⟩) (fun k => k ≤ g.branches.l.length) (fun k => g.branches.l.length - k) 0 (Nat.zero_le _) ?_ ?_
  · simp (maxSteps := 2000000) only [go_sem, Nat.reduceAdd, Nat.reduceMul, Nat.reduceBEq, Nat.reduceLeDiff, Nat.reduceLT, Nat.reduceEqDiff]
    first | exact rfl | exact ⟨rfl, rfl⟩ | exact ⟨rfl, rfl, rfl⟩ | exact ⟨rfl, rfl, rfl, rfl⟩ | exact ⟨rfl, rfl, rfl, rfl, rfl⟩
  intro k hk
  repeat' first | refine T_seq_region rfl ?_ | refine T_region rfl ?_ | refine T_ret ?_ | refine T_block ?_ | refine T_skip ?_ | refine T_exit ?_ | (simp (maxSteps := 2000000) only [go_sem, Nat.reduceAdd, Nat.reduceMul, Nat.reduceBEq, Nat.reduceLeDiff, Nat.reduceLT, Nat.reduceEqDiff]; try rfl) | refine T_seq ?_ | (refine And.intro ?_ ?_; focus (intros; simp_all only [Bool.or_eq_false_iff, Bool.or_eq_true, Bool.and_eq_true, and_self, true_and, and_true]; done))
  refine T_cond rfl (fun hd => ?_) (fun hd => ?_)
  · have hlt := lt_of_dec hd
    have hpl := (hb.el hlt).2.2
    have hcg := brCosts_get hlt
    repeat' first | refine T_seq_region rfl ?_ | refine T_region rfl ?_ | refine T_ret ?_ | refine T_block ?_ | refine T_skip ?_ | refine T_exit ?_ | refine vfn_val (fun _ => spec_CostOf_fn _ _ hpl) ?_ | (simp (maxSteps := 2000000) only [go_sem, Nat.reduceAdd, Nat.reduceMul, Nat.reduceBEq, Nat.reduceLeDiff, Nat.reduceLT, Nat.reduceEqDiff, at_DBranch hb hlt, hb.some hlt, hlt, Int.toNat_natCast]; try rfl) | refine T_seq ?_ | (refine And.intro ?_ ?_; focus (intros; simp_all only [Bool.or_eq_false_iff, Bool.or_eq_true, Bool.and_eq_true, and_self, true_and, and_true]; done))
    refine T_cond rfl (fun hq => ?_) (fun hq => ?_)
    · repeat' first | refine T_seq_region rfl ?_ | refine T_region rfl ?_ | refine T_ret ?_ | refine T_block ?_ | refine T_skip ?_ | refine T_exit ?_ | refine vfn_val (fun _ => spec_CostOf_fn _ _ hpl) ?_ | (simp (maxSteps := 2000000) only [go_sem, Nat.reduceAdd, Nat.reduceMul, Nat.reduceBEq, Nat.reduceLeDiff, Nat.reduceLT, Nat.reduceEqDiff, at_DBranch hb hlt, hb.some hlt, hlt, Int.toNat_natCast]; try rfl) | refine T_seq ?_ | (refine And.intro ?_ ?_; focus (intros; simp_all only [Bool.or_eq_false_iff, Bool.or_eq_true, Bool.and_eq_true, and_self, true_and, and_true]; done))
      refine ⟨k + 1, hlt, by omega, svInt ?_, svInt (wrapS hlt (by omega))⟩
      rw [pick_take, hcg]
      rcases (Bool.or_eq_true _ _).mp hq with h1 | h1
      · have := eq_of_beq h1; left; omega
      · right; rw [hcg]; exact decide_eq_true (of_decide_eq_true h1)
    · repeat' first | refine T_seq_region rfl ?_ | refine T_region rfl ?_ | refine T_ret ?_ | refine T_block ?_ | refine T_skip ?_ | refine T_exit ?_ | (simp (maxSteps := 2000000) only [go_sem, Nat.reduceAdd, Nat.reduceMul, Nat.reduceBEq, Nat.reduceLeDiff, Nat.reduceLT, Nat.reduceEqDiff]; try rfl) | refine T_seq ?_ | (refine And.intro ?_ ?_; focus (intros; simp_all only [Bool.or_eq_false_iff, Bool.or_eq_true, Bool.and_eq_true, and_self, true_and, and_true]; done))
      obtain ⟨h1, h2⟩ := Bool.or_eq_false_iff.1 hq
      refine ⟨k + 1, hlt, by omega, svInt ?_, svInt (wrapS hlt (by omega))⟩
      rw [pick_keep]
      rintro (h3 | h3)
      · exact beq_eq_false_iff_ne.1 h1 (by omega)
      · rw [hcg] at h3; exact of_decide_eq_false h2 (of_decide_eq_true h3)
  · have hge := ge_of_dec hd
    repeat' first | refine T_seq_region rfl ?_ | refine T_region rfl ?_ | refine T_ret ?_ | refine T_block ?_ | refine T_skip ?_ | refine T_exit ?_ | (simp (maxSteps := 2000000) only [go_sem, Nat.reduceAdd, Nat.reduceMul, Nat.reduceBEq, Nat.reduceLeDiff, Nat.reduceLT, Nat.reduceEqDiff]; try rfl) | refine T_seq ?_ | (refine And.intro ?_ ?_; focus (intros; simp_all only [Bool.or_eq_false_iff, Bool.or_eq_true, Bool.and_eq_true, and_self, true_and, and_true]; done))
    rw [Nat.le_antisymm hk hge]

theorem impl_WorstCost_fn (g : DStrategy) (h : Hp) (hg : Enc.ok h g) : Ct Try.prog 29 [g.v] h fun v h' => v = .int .i64 (F_WorstCost (Con.con g)) ∧ h' = h := by
  have hb := hg.2
  have hl := hb.max
  rw [F_WorstCost_def]
  refine Ct_of_T (fun A W => by simp) Try.func29 rfl rfl (by simp) fun W0 => ?_
  repeat' first | refine T_seq_region rfl ?_ | refine T_region rfl ?_ | refine T_ret ?_ | refine T_block ?_ | refine T_skip ?_ | refine T_exit ?_ | (simp (maxSteps := 2000000) only [go_sem, Nat.reduceAdd, Nat.reduceMul, Nat.reduceBEq, Nat.reduceLeDiff, Nat.reduceLT, Nat.reduceEqDiff]; try rfl) | refine T_seq ?_ | (refine And.intro ?_ ?_; focus (intros; simp_all only [Bool.or_eq_false_iff, Bool.or_eq_true, Bool.and_eq_true, and_self, true_and, and_true]; done))
  refine T_loop (ι := Nat) (fun k => ⟨[(3, true, .c (.v (.int .i64 (pickGo (fun a b => decide (b < a)) (brCosts g.branches.l) k)))), (7, true, .c (.v g.branches.val)), (8, true, .c (.v (.int .i64 g.branches.l.length))), (9, true, .c (.v (.int .i64 k)))], [], h, 1⟩) (fun k => k ≤ g.branches.l.length) (fun k => g.branches.l.length - k) 0 (Nat.zero_le _) ?_ ?_
  · simp (maxSteps := 2000000) only [go_sem, Nat.reduceAdd, Nat.reduceMul, Nat.reduceBEq, Nat.reduceLeDiff, Nat.reduceLT, Nat.reduceEqDiff]
    first | exact rfl | exact ⟨rfl, rfl⟩ | exact ⟨rfl, rfl, rfl⟩ | exact ⟨rfl, rfl, rfl, rfl⟩ | exact ⟨rfl, rfl, rfl, rfl, rfl⟩
  intro k hk
  repeat' first | refine T_seq_region rfl ?_ | refine T_region rfl ?_ | refine T_ret ?_ | refine T_block ?_ | refine T_skip ?_ | refine T_exit ?_ | (simp (maxSteps := 2000000) only [go_sem, Nat.reduceAdd, Nat.reduceMul, Nat.reduceBEq, Nat.reduceLeDiff, Nat.reduceLT, Nat.reduceEqDiff]; try rfl) | refine T_seq ?_ | (refine And.intro ?_ ?_; focus (intros; simp_all only [Bool.or_eq_false_iff, Bool.or_eq_true, Bool.and_eq_true, and_self, true_and, and_true]; done))
  refine T_cond rfl (fun hd => ?_) (fun hd => ?_)
  · have hlt := lt_of_dec hd
    have hpl := (hb.el hlt).2.2
    have hcg := brCosts_get hlt
    repeat' first | refine T_seq_region rfl ?_ | refine T_region rfl ?_ | refine T_ret ?_ | refine T_block ?_ | refine T_skip ?_ | refine T_exit ?_ | refine vfn_val (fun _ => impl_CostOf_fn _ _ hpl) ?_ | (simp (maxSteps := 2000000) only [go_sem, Nat.reduceAdd, Nat.reduceMul, Nat.reduceBEq, Nat.reduceLeDiff, Nat.reduceLT, Nat.reduceEqDiff, at_DBranch hb hlt, hb.some hlt, hlt, Int.toNat_natCast]; try rfl) | refine T_seq ?_ | (refine And.intro ?_ ?_; focus (intros; simp_all only [Bool.or_eq_false_iff, Bool.or_eq_true, Bool.and_eq_true, and_self, true_and, and_true]; done))
    refine T_cond rfl (fun hq => ?_) (fun hq => ?_)
    · repeat' first | refine T_seq_region rfl ?_ | refine T_region rfl ?_ | refine T_ret ?_ | refine T_block ?_ | refine T_skip ?_ | refine T_exit ?_ | refine vfn_val (fun _ => impl_CostOf_fn _ _ hpl) ?_ | (simp (maxSteps := 2000000) only [go_sem, Nat.reduceAdd, Nat.reduceMul, Nat.reduceBEq, Nat.reduceLeDiff, Nat.reduceLT, Nat.reduceEqDiff, at_DBranch hb hlt, hb.some hlt, hlt, Int.toNat_natCast]; try rfl) | refine T_seq ?_ | (refine And.intro ?_ ?_; focus (intros; simp_all only [Bool.or_eq_false_iff, Bool.or_eq_true, Bool.and_eq_true, and_self, true_and, and_true]; done))
      refine ⟨k + 1, hlt, by omega, svInt ?_, svInt (wrapS hlt (by omega))⟩
      rw [pick_take, hcg]
      rcases (Bool.or_eq_true _ _).mp hq with h1 | h1
      · have := eq_of_beq h1; left; omega
      · right; rw [hcg]; exact decide_eq_true (of_decide_eq_true h1)
    · repeat' first | refine T_seq_region rfl ?_ | refine T_region rfl ?_ | refine T_ret ?_ | refine T_block ?_ | refine T_skip ?_ | refine T_exit ?_ | (simp (maxSteps := 2000000) only [go_sem, Nat.reduceAdd, Nat.reduceMul, Nat.reduceBEq, Nat.reduceLeDiff, Nat.reduceLT, Nat.reduceEqDiff]; try rfl) | refine T_seq ?_ | (refine And.intro ?_ ?_; focus (intros; simp_all only [Bool.or_eq_false_iff, Bool.or_eq_true, Bool.and_eq_true, and_self, true_and, and_true]; done))
      obtain ⟨h1, h2⟩ := Bool.or_eq_false_iff.1 hq
      refine ⟨k + 1, hlt, by omega, svInt ?_, svInt (wrapS hlt (by omega))⟩
      rw [pick_keep]
      rintro (h3 | h3)
      · exact beq_eq_false_iff_ne.1 h1 (by omega)
      · rw [hcg] at h3; exact of_decide_eq_false h2 (of_decide_eq_true h3)
  · have hge := ge_of_dec hd
    repeat' first | refine T_seq_region rfl ?_ | refine T_region rfl ?_ | refine T_ret ?_ | refine T_block ?_ | refine T_skip ?_ | refine T_exit ?_ | (simp (maxSteps := 2000000) only [go_sem, Nat.reduceAdd, Nat.reduceMul, Nat.reduceBEq, Nat.reduceLeDiff, Nat.reduceLT, Nat.reduceEqDiff]; try rfl) | refine T_seq ?_ | (refine And.intro ?_ ?_; focus (intros; simp_all only [Bool.or_eq_false_iff, Bool.or_eq_true, Bool.and_eq_true, and_self, true_and, and_true]; done))
    rw [Nat.le_antisymm hk hge]
end Go.Proofs.Ytfbdafdbinbeaaa
