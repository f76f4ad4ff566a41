/- What functions of the given program compute, each as a contract over what its arguments read as. No condition beside those that each theorem states. -/
import Derived.Test.YtfbdafdbinbeaaaOk5
set_option linter.unusedVariables false
set_option linter.unusedSimpArgs false
namespace Go.Proofs.Ytfbdafdbinbeaaa
open Go Go.SL
set_option maxHeartbeats 1000000

def F_ends (c : PChart) (p : DPassage) : Int × Int := if p.toward then ((c.segments.getD p.seg.toNat dG).a, (c.segments.getD p.seg.toNat dG).b) else ((c.segments.getD p.seg.toNat dG).b, (c.segments.getD p.seg.toNat dG).a)
def F_minutes (s : DShip) (g : DSegment) : Int := if s.slow then IntKind.i64.wrap (2 * g.minutes) else g.minutes
def F_passageOk (c : PChart) (l : List DShip) (p : DPassage) : Bool := decide (0 ≤ p.ship ∧ p.ship < l.length ∧ 0 ≤ p.seg ∧ p.seg < c.segments.length ∧ 0 ≤ p.start ∧ p.start ≤ 2880 ∧ p.fin ≤ 2880) && decide (p.fin = IntKind.i64.wrap (p.start + F_minutes (l.getD p.ship.toNat dH) (c.segments.getD p.seg.toNat dG)))
def F_PassageOk (c : PChart) (l : List DShip) (p : DPassage) : Bool := F_ChartOk c && F_FleetOk l && F_passageOk c l p
theorem segs_con (c : DChart) : (Con.con c).segments = c.segments.l := con_segl _
theorem F_ends_eq (c : DChart) (p : DPassage) (hs : p.seg.toNat < c.segments.l.length) : F_ends (Con.con c) p = if p.toward then (c.segments.l[p.seg.toNat].a, c.segments.l[p.seg.toNat].b) else (c.segments.l[p.seg.toNat].b, c.segments.l[p.seg.toNat].a) := by
  rw [F_ends, segs_con, gget hs]

theorem spec_l08Ends_fn (c : DChart) (p : DPassage) (h : Hp) (hc : Enc.ok h c) (h0 : 0 ≤ p.seg) (h1 : p.seg < c.segments.l.length) : Ct Try.prog 82 [c.v, p.v] h fun v h' => v = .tuple #[.int .i64 (F_ends (Con.con c) p).1, .int .i64 (F_ends (Con.con c) p).2] ∧ h' = h := by
  have hg := hc.2
  have hs : p.seg.toNat < c.segments.l.length := by omega
  rw [F_ends_eq c p hs]
  refine Ct_of_T (fun A W => by simp) Try.func82 rfl rfl (by simp) fun W0 => ?_
  repeat' first | refine T_seq_region rfl ?_ | refine T_region rfl ?_ | refine T_ret ?_ | refine T_block ?_ | refine T_skip ?_ | refine T_exit ?_ | (simp (maxSteps := 2000000) only [go_sem, Nat.reduceAdd, Nat.reduceMul, Nat.reduceBEq, Nat.reduceLeDiff, Nat.reduceLT, Nat.reduceEqDiff, at_DSegment hg hs, hg.some hs, hs, h0, h1]; try rfl) | refine T_seq ?_ | (refine And.intro ?_ ?_; focus (intros; simp_all only [Bool.or_eq_false_iff, Bool.or_eq_true, Bool.and_eq_true, and_self, true_and, and_true]; done))
  refine T_cond rfl (fun hq => ?_) (fun hq => ?_)
  · repeat' first | refine T_seq_region rfl ?_ | refine T_region rfl ?_ | refine T_ret ?_ | refine T_block ?_ | refine T_skip ?_ | refine T_exit ?_ | (simp (maxSteps := 2000000) only [go_sem, Nat.reduceAdd, Nat.reduceMul, Nat.reduceBEq, Nat.reduceLeDiff, Nat.reduceLT, Nat.reduceEqDiff]; try rfl) | refine T_seq ?_ | (refine And.intro ?_ ?_; focus (intros; simp_all only [Bool.or_eq_false_iff, Bool.or_eq_true, Bool.and_eq_true, and_self, true_and, and_true]; done))
    refine T_any_q rfl (by kernel_rfl) ?_
    simp (maxSteps := 2000000) only [go_sem, Nat.reduceAdd, Nat.reduceMul, Nat.reduceBEq, Nat.reduceLeDiff, Nat.reduceLT, Nat.reduceEqDiff]
    repeat' first | refine T_seq_region rfl ?_ | refine T_region rfl ?_ | refine T_ret ?_ | refine T_block ?_ | refine T_skip ?_ | refine T_exit ?_ | (simp (maxSteps := 2000000) only [go_sem, Nat.reduceAdd, Nat.reduceMul, Nat.reduceBEq, Nat.reduceLeDiff, Nat.reduceLT, Nat.reduceEqDiff]; try rfl) | refine T_seq ?_ | (refine And.intro ?_ ?_; focus (intros; simp_all only [Bool.or_eq_false_iff, Bool.or_eq_true, Bool.and_eq_true, and_self, true_and, and_true]; done))
    rw [hq]; rfl
  · repeat' first | refine T_seq_region rfl ?_ | refine T_region rfl ?_ | refine T_ret ?_ | refine T_block ?_ | refine T_skip ?_ | refine T_exit ?_ | (simp (maxSteps := 2000000) only [go_sem, Nat.reduceAdd, Nat.reduceMul, Nat.reduceBEq, Nat.reduceLeDiff, Nat.reduceLT, Nat.reduceEqDiff]; try rfl) | refine T_seq ?_ | (refine And.intro ?_ ?_; focus (intros; simp_all only [Bool.or_eq_false_iff, Bool.or_eq_true, Bool.and_eq_true, and_self, true_and, and_true]; done))
    refine T_any_q rfl (by kernel_rfl) ?_
    simp (maxSteps := 2000000) only [go_sem, Nat.reduceAdd, Nat.reduceMul, Nat.reduceBEq, Nat.reduceLeDiff, Nat.reduceLT, Nat.reduceEqDiff]
    repeat' first | refine T_seq_region rfl ?_ | refine T_region rfl ?_ | refine T_ret ?_ | refine T_block ?_ | refine T_skip ?_ | refine T_exit ?_ | (simp (maxSteps := 2000000) only [go_sem, Nat.reduceAdd, Nat.reduceMul, Nat.reduceBEq, Nat.reduceLeDiff, Nat.reduceLT, Nat.reduceEqDiff]; try rfl) | refine T_seq ?_ | (refine And.intro ?_ ?_; focus (intros; simp_all only [Bool.or_eq_false_iff, Bool.or_eq_true, Bool.and_eq_true, and_self, true_and, and_true]; done))
    rw [hq]; rfl

theorem impl_ends_fn (c : DChart) (p : DPassage) (h : Hp) (hc : Enc.ok h c) (h0 : 0 ≤ p.seg) (h1 : p.seg < c.segments.l.length) : Ct Try.prog 128 [p.v, c.v] h fun v h' => v = .tuple #[.int .i64 (F_ends (Con.con c) p).1, .int .i64 (F_ends (Con.con c) p).2] ∧ h' = h := by
  have hg := hc.2
  have hs : p.seg.toNat < c.segments.l.length := by omega
  rw [F_ends_eq c p hs]
  refine Ct_of_T (fun A W => by simp) Try.func128 rfl rfl (by simp) fun W0 => ?_
  repeat' first | refine T_seq_region rfl ?_ | refine T_region rfl ?_ | refine T_ret ?_ | refine T_block ?_ | refine T_skip ?_ | refine T_exit ?_ | (simp (maxSteps := 2000000) only [go_sem, Nat.reduceAdd, Nat.reduceMul, Nat.reduceBEq, Nat.reduceLeDiff, Nat.reduceLT, Nat.reduceEqDiff, at_DSegment hg hs, hg.some hs, hs, h0, h1]; try rfl) | refine T_seq ?_ | (refine And.intro ?_ ?_; focus (intros; simp_all only [Bool.or_eq_false_iff, Bool.or_eq_true, Bool.and_eq_true, and_self, true_and, and_true]; done))
  refine T_cond rfl (fun hq => ?_) (fun hq => ?_)
  · repeat' first | refine T_seq_region rfl ?_ | refine T_region rfl ?_ | refine T_ret ?_ | refine T_block ?_ | refine T_skip ?_ | refine T_exit ?_ | (simp (maxSteps := 2000000) only [go_sem, Nat.reduceAdd, Nat.reduceMul, Nat.reduceBEq, Nat.reduceLeDiff, Nat.reduceLT, Nat.reduceEqDiff]; try rfl) | refine T_seq ?_ | (refine And.intro ?_ ?_; focus (intros; simp_all only [Bool.or_eq_false_iff, Bool.or_eq_true, Bool.and_eq_true, and_self, true_and, and_true]; done))
    refine T_any_q rfl (by kernel_rfl) ?_
    simp (maxSteps := 2000000) only [go_sem, Nat.reduceAdd, Nat.reduceMul, Nat.reduceBEq, Nat.reduceLeDiff, Nat.reduceLT, Nat.reduceEqDiff]
    repeat' first | refine T_seq_region rfl ?_ | refine T_region rfl ?_ | refine T_ret ?_ | refine T_block ?_ | refine T_skip ?_ | refine T_exit ?_ | (simp (maxSteps := 2000000) only [go_sem, Nat.reduceAdd, Nat.reduceMul, Nat.reduceBEq, Nat.reduceLeDiff, Nat.reduceLT, Nat.reduceEqDiff]; try rfl) | refine T_seq ?_ | (refine And.intro ?_ ?_; focus (intros; simp_all only [Bool.or_eq_false_iff, Bool.or_eq_true, Bool.and_eq_true, and_self, true_and, and_true]; done))
    rw [hq]; rfl
  · repeat' first | refine T_seq_region rfl ?_ | refine T_region rfl ?_ | refine T_ret ?_ | refine T_block ?_ | refine T_skip ?_ | refine T_exit ?_ | (simp (maxSteps := 2000000) only [go_sem, Nat.reduceAdd, Nat.reduceMul, Nat.reduceBEq, Nat.reduceLeDiff, Nat.reduceLT, Nat.reduceEqDiff]; try rfl) | refine T_seq ?_ | (refine And.intro ?_ ?_; focus (intros; simp_all only [Bool.or_eq_false_iff, Bool.or_eq_true, Bool.and_eq_true, and_self, true_and, and_true]; done))
    refine T_any_q rfl (by kernel_rfl) ?_
    simp (maxSteps := 2000000) only [go_sem, Nat.reduceAdd, Nat.reduceMul, Nat.reduceBEq, Nat.reduceLeDiff, Nat.reduceLT, Nat.reduceEqDiff]
    repeat' first | refine T_seq_region rfl ?_ | refine T_region rfl ?_ | refine T_ret ?_ | refine T_block ?_ | refine T_skip ?_ | refine T_exit ?_ | (simp (maxSteps := 2000000) only [go_sem, Nat.reduceAdd, Nat.reduceMul, Nat.reduceBEq, Nat.reduceLeDiff, Nat.reduceLT, Nat.reduceEqDiff]; try rfl) | refine T_seq ?_ | (refine And.intro ?_ ?_; focus (intros; simp_all only [Bool.or_eq_false_iff, Bool.or_eq_true, Bool.and_eq_true, and_self, true_and, and_true]; done))
    rw [hq]; rfl

theorem spec_l06Minutes_fn (g : DSegment) (s : DShip) (h : Hp) : Ct Try.prog 157 [g.v, s.v] h fun v h' => v = .int .i64 (F_minutes s g) ∧ h' = h := by
  refine Ct_of_T (fun A W => by simp) Try.func157 rfl rfl (by simp) fun W0 => ?_
  repeat' first | refine T_seq_region rfl ?_ | refine T_region rfl ?_ | refine T_ret ?_ | refine T_block ?_ | refine T_skip ?_ | refine T_exit ?_ | (simp (maxSteps := 2000000) only [go_sem, Nat.reduceAdd, Nat.reduceMul, Nat.reduceBEq, Nat.reduceLeDiff, Nat.reduceLT, Nat.reduceEqDiff]; try rfl) | refine T_seq ?_ | (refine And.intro ?_ ?_; focus (intros; simp_all only [Bool.or_eq_false_iff, Bool.or_eq_true, Bool.and_eq_true, and_self, true_and, and_true]; done))
  refine T_cond rfl (fun hq => ?_) (fun hq => ?_)
  · repeat' first | refine T_seq_region rfl ?_ | refine T_region rfl ?_ | refine T_ret ?_ | refine T_block ?_ | refine T_skip ?_ | refine T_exit ?_ | (simp (maxSteps := 2000000) only [go_sem, Nat.reduceAdd, Nat.reduceMul, Nat.reduceBEq, Nat.reduceLeDiff, Nat.reduceLT, Nat.reduceEqDiff]; try rfl) | refine T_seq ?_ | (refine And.intro ?_ ?_; focus (intros; simp_all only [Bool.or_eq_false_iff, Bool.or_eq_true, Bool.and_eq_true, and_self, true_and, and_true]; done))
    rw [F_minutes, if_pos hq]
  · repeat' first | refine T_seq_region rfl ?_ | refine T_region rfl ?_ | refine T_ret ?_ | refine T_block ?_ | refine T_skip ?_ | refine T_exit ?_ | (simp (maxSteps := 2000000) only [go_sem, Nat.reduceAdd, Nat.reduceMul, Nat.reduceBEq, Nat.reduceLeDiff, Nat.reduceLT, Nat.reduceEqDiff]; try rfl) | refine T_seq ?_ | (refine And.intro ?_ ?_; focus (intros; simp_all only [Bool.or_eq_false_iff, Bool.or_eq_true, Bool.and_eq_true, and_self, true_and, and_true]; done))
    rw [F_minutes, if_neg (by rw [hq]; exact Bool.false_ne_true)]
theorem impl_minutes_fn (s : DShip) (g : DSegment) (h : Hp) : Ct Try.prog 158 [s.v, g.v] h fun v h' => v = .int .i64 (F_minutes s g) ∧ h' = h := by
  refine Ct_of_T (fun A W => by simp) Try.func158 rfl rfl (by simp) fun W0 => ?_
  repeat' first | refine T_seq_region rfl ?_ | refine T_region rfl ?_ | refine T_ret ?_ | refine T_block ?_ | refine T_skip ?_ | refine T_exit ?_ | (simp (maxSteps := 2000000) only [go_sem, Nat.reduceAdd, Nat.reduceMul, Nat.reduceBEq, Nat.reduceLeDiff, Nat.reduceLT, Nat.reduceEqDiff]; try rfl) | refine T_seq ?_ | (refine And.intro ?_ ?_; focus (intros; simp_all only [Bool.or_eq_false_iff, Bool.or_eq_true, Bool.and_eq_true, and_self, true_and, and_true]; done))
  refine T_cond rfl (fun hq => ?_) (fun hq => ?_)
  · repeat' first | refine T_seq_region rfl ?_ | refine T_region rfl ?_ | refine T_ret ?_ | refine T_block ?_ | refine T_skip ?_ | refine T_exit ?_ | (simp (maxSteps := 2000000) only [go_sem, Nat.reduceAdd, Nat.reduceMul, Nat.reduceBEq, Nat.reduceLeDiff, Nat.reduceLT, Nat.reduceEqDiff]; try rfl) | refine T_seq ?_ | (refine And.intro ?_ ?_; focus (intros; simp_all only [Bool.or_eq_false_iff, Bool.or_eq_true, Bool.and_eq_true, and_self, true_and, and_true]; done))
    rw [F_minutes, if_pos hq]
  · repeat' first | refine T_seq_region rfl ?_ | refine T_region rfl ?_ | refine T_ret ?_ | refine T_block ?_ | refine T_skip ?_ | refine T_exit ?_ | (simp (maxSteps := 2000000) only [go_sem, Nat.reduceAdd, Nat.reduceMul, Nat.reduceBEq, Nat.reduceLeDiff, Nat.reduceLT, Nat.reduceEqDiff]; try rfl) | refine T_seq ?_ | (refine And.intro ?_ ?_; focus (intros; simp_all only [Bool.or_eq_false_iff, Bool.or_eq_true, Bool.and_eq_true, and_self, true_and, and_true]; done))
    rw [F_minutes, if_neg (by rw [hq]; exact Bool.false_ne_true)]
theorem spec_MinutesOn_fn (c : DChart) (k : Int) (s : DShip) (h : Hp) (hc : Enc.ok h c) (hs : Enc.ok h s) : Ct Try.prog 124 [c.v, .int .i64 k, s.v] h fun v h' => v = .int .i64 (if F_ChartOk (Con.con c) = true ∧ F_ShipOk s = true ∧ 0 ≤ k ∧ k < c.segments.l.length then F_minutes s (c.segments.l.getD k.toNat dG) else 0) ∧ h' = h := by
  have hg := hc.2
  have hl := hg.max
  have hw : IntKind.i64.wrap ((c.segments.l.length : Int) - 1) = (c.segments.l.length : Int) - 1 := wrap64 (by omega)
  refine Ct_of_T (fun A W => by simp) Try.func124 rfl rfl (by simp) fun W0 => ?_
  repeat' first | refine T_seq_region rfl ?_ | refine T_region rfl ?_ | refine T_ret ?_ | refine T_block ?_ | refine T_skip ?_ | refine T_exit ?_ | refine vfn_val (fun _ => spec_ChartOk_fn c _ hc) ?_ | refine vfn_val (fun _ => spec_ShipOk_fn s _ hs) ?_ | refine vfn_val (fun _ => l01In_fn _ _ _ _) ?_ | (simp (maxSteps := 2000000) only [go_sem, Nat.reduceAdd, Nat.reduceMul, Nat.reduceBEq, Nat.reduceLeDiff, Nat.reduceLT, Nat.reduceEqDiff, hw]; try rfl) | refine T_seq ?_ | (refine And.intro ?_ ?_; focus (intros; simp_all only [Bool.or_eq_false_iff, Bool.or_eq_true, Bool.and_eq_true, and_self, true_and, and_true]; done))
  refine T_cond rfl (fun hq => ?_) (fun hq => ?_)
  · repeat' first | refine T_seq_region rfl ?_ | refine T_region rfl ?_ | refine T_ret ?_ | refine T_block ?_ | refine T_skip ?_ | refine T_exit ?_ | (simp (maxSteps := 2000000) only [go_sem, Nat.reduceAdd, Nat.reduceMul, Nat.reduceBEq, Nat.reduceLeDiff, Nat.reduceLT, Nat.reduceEqDiff]; try rfl) | refine T_seq ?_ | (refine And.intro ?_ ?_; focus (intros; simp_all only [Bool.or_eq_false_iff, Bool.or_eq_true, Bool.and_eq_true, and_self, true_and, and_true]; done))
    simp only [Bool.or_eq_true, Bool.not_eq_true', Bool.and_eq_false_iff, decide_eq_false_iff_not] at hq
    rw [if_neg]
    rintro ⟨h1, h2, h3, h4⟩
    rw [h1, h2] at hq
    rcases hq with (hq | hq) | hq
    · cases hq
    · cases hq
    · omega
  · simp only [Bool.or_eq_false_iff, Bool.not_eq_false', Bool.and_eq_true, decide_eq_true_eq] at hq
    obtain ⟨⟨h1, h2⟩, h3, h4⟩ := hq
    have hs' : k.toNat < c.segments.l.length := by omega
    have h4' : k < (c.segments.l.length : Int) := by omega
    rw [if_pos ⟨h1, h2, h3, h4'⟩, gget hs']
    repeat' first | refine T_seq_region rfl ?_ | refine T_region rfl ?_ | refine T_ret ?_ | refine T_block ?_ | refine T_skip ?_ | refine T_exit ?_ | (simp (maxSteps := 2000000) only [go_sem, Nat.reduceAdd, Nat.reduceMul, Nat.reduceBEq, Nat.reduceLeDiff, Nat.reduceLT, Nat.reduceEqDiff]; try rfl) | refine T_seq ?_ | (refine And.intro ?_ ?_; focus (intros; simp_all only [Bool.or_eq_false_iff, Bool.or_eq_true, Bool.and_eq_true, and_self, true_and, and_true]; done))
    refine T_any rfl ?_
    refine V_takes [0, 1, 2, 3, 4, 5] rfl (by kernel_rfl) ?_
    simp (maxSteps := 2000000) only [go_sem, Nat.reduceAdd, Nat.reduceMul, Nat.reduceBEq, Nat.reduceLeDiff, Nat.reduceLT, Nat.reduceEqDiff, at_DSegment hg hs', hg.some hs', hs', h3, h4']
    refine V_branch [6] (by kernel_rfl) (by kernel_rfl) ?_
    simp (maxSteps := 2000000) only [go_sem, Nat.reduceAdd, Nat.reduceMul, Nat.reduceBEq, Nat.reduceLeDiff, Nat.reduceLT, Nat.reduceEqDiff, at_DSegment hg hs', hg.some hs', hs', h3, h4']
    refine vfn_val (fun _ => spec_l06Minutes_fn _ _ _) ?_
    simp (maxSteps := 2000000) only [go_sem, Nat.reduceAdd, Nat.reduceMul, Nat.reduceBEq, Nat.reduceLeDiff, Nat.reduceLT, Nat.reduceEqDiff, at_DSegment hg hs', hg.some hs', hs', h3, h4']
    refine V_takes [7] rfl (by kernel_rfl) ?_
    simp (maxSteps := 2000000) only [go_sem, Nat.reduceAdd, Nat.reduceMul, Nat.reduceBEq, Nat.reduceLeDiff, Nat.reduceLT, Nat.reduceEqDiff]
    refine V_done (by kernel_rfl) ?_
    repeat' first | refine T_seq_region rfl ?_ | refine T_region rfl ?_ | refine T_ret ?_ | refine T_block ?_ | refine T_skip ?_ | refine T_exit ?_ | (simp (maxSteps := 2000000) only [go_sem, Nat.reduceAdd, Nat.reduceMul, Nat.reduceBEq, Nat.reduceLeDiff, Nat.reduceLT, Nat.reduceEqDiff]; try rfl) | refine T_seq ?_ | (refine And.intro ?_ ?_; focus (intros; simp_all only [Bool.or_eq_false_iff, Bool.or_eq_true, Bool.and_eq_true, and_self, true_and, and_true]; done))
theorem F_passageOk_def (c : DChart) (l : List DShip) (p : DPassage) : F_passageOk (Con.con c) l p = (decide (0 ≤ p.ship ∧ p.ship < l.length ∧ 0 ≤ p.seg ∧ p.seg < c.segments.l.length ∧ 0 ≤ p.start ∧ p.start ≤ 2880 ∧ p.fin ≤ 2880) && decide (p.fin = IntKind.i64.wrap (p.start + F_minutes (l.getD p.ship.toNat dH) (c.segments.l.getD p.seg.toNat dG)))) := by
  rw [F_passageOk, segs_con]
theorem impl_passageOk_fn (c : DChart) (a : Sl DShip) (p : DPassage) (h : Hp) (hc : Enc.ok h c) (ha : a.Ok h) : Ct Try.prog 129 [c.v, a.val, p.v] h fun v h' => v = .bool (F_passageOk (Con.con c) a.l p) ∧ h' = h := by
  have hg := hc.2
  rw [F_passageOk_def]
  refine Ct_of_T (fun A W => by simp) Try.func129 rfl rfl (by simp) fun W0 => ?_
  repeat' first | refine T_seq_region rfl ?_ | refine T_region rfl ?_ | refine T_ret ?_ | refine T_block ?_ | refine T_skip ?_ | refine T_exit ?_ | refine vfn_val (fun _ => isIndex_fn _ _ _) ?_ | refine vfn_val (fun _ => isMinute_fn _ _) ?_ | (simp (maxSteps := 2000000) only [go_sem, Nat.reduceAdd, Nat.reduceMul, Nat.reduceBEq, Nat.reduceLeDiff, Nat.reduceLT, Nat.reduceEqDiff]; try rfl) | refine T_seq ?_ | (refine And.intro ?_ ?_; focus (intros; simp_all only [Bool.or_eq_false_iff, Bool.or_eq_true, Bool.and_eq_true, and_self, true_and, and_true]; done))
  refine T_cond rfl (fun hq => ?_) (fun hq => ?_)
  · repeat' first | refine T_seq_region rfl ?_ | refine T_region rfl ?_ | refine T_ret ?_ | refine T_block ?_ | refine T_skip ?_ | refine T_exit ?_ | (simp (maxSteps := 2000000) only [go_sem, Nat.reduceAdd, Nat.reduceMul, Nat.reduceBEq, Nat.reduceLeDiff, Nat.reduceLT, Nat.reduceEqDiff]; try rfl) | refine T_seq ?_ | (refine And.intro ?_ ?_; focus (intros; simp_all only [Bool.or_eq_false_iff, Bool.or_eq_true, Bool.and_eq_true, and_self, true_and, and_true]; done))
    simp only [Bool.or_eq_true, Bool.not_eq_true', Bool.and_eq_false_iff, decide_eq_false_iff_not, decide_eq_true_eq] at hq
    rw [decide_eq_false (by omega), Bool.false_and]
  · simp only [Bool.or_eq_false_iff, Bool.not_eq_false', Bool.and_eq_true, decide_eq_true_eq, decide_eq_false_iff_not] at hq
    have h1 : 0 ≤ p.ship ∧ p.ship < (a.l.length : Int) ∧ 0 ≤ p.seg ∧ p.seg < (c.segments.l.length : Int) ∧ 0 ≤ p.start ∧ p.start ≤ 2880 ∧ p.fin ≤ 2880 := by omega
    have hs' : p.seg.toNat < c.segments.l.length := by omega
    have hp' : p.ship.toNat < a.l.length := by omega
    rw [decide_eq_true h1, Bool.true_and, gget hs', hget hp']
    repeat' first | refine T_seq_region rfl ?_ | refine T_region rfl ?_ | refine T_ret ?_ | refine T_block ?_ | refine T_skip ?_ | refine T_exit ?_ | (simp (maxSteps := 2000000) only [go_sem, Nat.reduceAdd, Nat.reduceMul, Nat.reduceBEq, Nat.reduceLeDiff, Nat.reduceLT, Nat.reduceEqDiff]; try rfl) | refine T_seq ?_ | (refine And.intro ?_ ?_; focus (intros; simp_all only [Bool.or_eq_false_iff, Bool.or_eq_true, Bool.and_eq_true, and_self, true_and, and_true]; done))
    refine T_any rfl ?_
    refine V_takes [0, 1, 2, 3, 4, 5, 6, 7, 8, 9, 10, 11, 12, 13, 14] rfl (by kernel_rfl) ?_
    simp (maxSteps := 2000000) only [go_sem, Nat.reduceAdd, Nat.reduceMul, Nat.reduceBEq, Nat.reduceLeDiff, Nat.reduceLT, Nat.reduceEqDiff, at_DSegment hg hs', hg.some hs', hs', h1.2.2.1, h1.2.2.2.1, at_DShip ha hp', ha.some hp', hp', h1.1, h1.2.1]
    refine V_branch [15] (by kernel_rfl) (by kernel_rfl) ?_
    simp (maxSteps := 2000000) only [go_sem, Nat.reduceAdd, Nat.reduceMul, Nat.reduceBEq, Nat.reduceLeDiff, Nat.reduceLT, Nat.reduceEqDiff, at_DSegment hg hs', hg.some hs', hs', h1.2.2.1, h1.2.2.2.1, at_DShip ha hp', ha.some hp', hp', h1.1, h1.2.1]
    refine vfn_val (fun _ => impl_minutes_fn _ _ _) ?_
    simp (maxSteps := 2000000) only [go_sem, Nat.reduceAdd, Nat.reduceMul, Nat.reduceBEq, Nat.reduceLeDiff, Nat.reduceLT, Nat.reduceEqDiff, at_DSegment hg hs', hg.some hs', hs', h1.2.2.1, h1.2.2.2.1, at_DShip ha hp', ha.some hp', hp', h1.1, h1.2.1]
    refine V_takes [16, 17, 18] rfl (by kernel_rfl) ?_
    simp (maxSteps := 2000000) only [go_sem, Nat.reduceAdd, Nat.reduceMul, Nat.reduceBEq, Nat.reduceLeDiff, Nat.reduceLT, Nat.reduceEqDiff]
    refine V_done (by kernel_rfl) ?_
    repeat' first | refine T_seq_region rfl ?_ | refine T_region rfl ?_ | refine T_ret ?_ | refine T_block ?_ | refine T_skip ?_ | refine T_exit ?_ | (simp (maxSteps := 2000000) only [go_sem, Nat.reduceAdd, Nat.reduceMul, Nat.reduceBEq, Nat.reduceLeDiff, Nat.reduceLT, Nat.reduceEqDiff]; try rfl) | refine T_seq ?_ | (refine And.intro ?_ ?_; focus (intros; simp_all only [Bool.or_eq_false_iff, Bool.or_eq_true, Bool.and_eq_true, and_self, true_and, and_true]; done))
theorem impl_PassageOk_fn (c : DChart) (a : Sl DShip) (p : DPassage) (h : Hp) (hc : Enc.ok h c) (ha : a.Ok h) : Ct Try.prog 88 [c.v, a.val, p.v] h fun v h' => v = .bool (F_PassageOk (Con.con c) a.l p) ∧ h' = h := by
  rw [F_PassageOk]
  refine Ct_of_T (fun A W => by simp) Try.func88 rfl rfl (by simp) fun W0 => ?_
  repeat' first | refine T_seq_region rfl ?_ | refine T_region rfl ?_ | refine T_ret ?_ | refine T_block ?_ | refine T_skip ?_ | refine T_exit ?_ | refine vfn_val (fun _ => impl_ChartOk_fn c _ hc) ?_ | refine vfn_val (fun _ => impl_FleetOk_fn _ _ ha) ?_ | refine vfn_val (fun _ => impl_passageOk_fn c a p _ hc ha) ?_ | (simp (maxSteps := 2000000) only [go_sem, Nat.reduceAdd, Nat.reduceMul, Nat.reduceBEq, Nat.reduceLeDiff, Nat.reduceLT, Nat.reduceEqDiff]; try rfl) | refine T_seq ?_ | (refine And.intro ?_ ?_; focus (intros; simp_all only [Bool.or_eq_false_iff, Bool.or_eq_true, Bool.and_eq_true, and_self, true_and, and_true]; done))
theorem spec_PassageOk_fn (c : DChart) (a : Sl DShip) (p : DPassage) (h : Hp) (hc : Enc.ok h c) (ha : a.Ok h) : Ct Try.prog 81 [c.v, a.val, p.v] h fun v h' => v = .bool (F_PassageOk (Con.con c) a.l p) ∧ h' = h := by
  have hg := hc.2
  have hl := hg.max
  have hl2 := ha.max
  have hw : IntKind.i64.wrap ((c.segments.l.length : Int) - 1) = (c.segments.l.length : Int) - 1 := wrap64 (by omega)
  have hw2 : IntKind.i64.wrap ((a.l.length : Int) - 1) = (a.l.length : Int) - 1 := wrap64 (by omega)
  rw [F_PassageOk, F_passageOk_def]
  refine Ct_of_T (fun A W => by simp) Try.func81 rfl rfl (by simp) fun W0 => ?_
  repeat' first | refine T_seq_region rfl ?_ | refine T_region rfl ?_ | refine T_ret ?_ | refine T_block ?_ | refine T_skip ?_ | refine T_exit ?_ | refine vfn_val (fun _ => spec_ChartOk_fn c _ hc) ?_ | refine vfn_val (fun _ => spec_FleetOk_fn _ _ ha) ?_ | refine vfn_val (fun _ => l01In_fn _ _ _ _) ?_ | (simp (maxSteps := 2000000) only [go_sem, Nat.reduceAdd, Nat.reduceMul, Nat.reduceBEq, Nat.reduceLeDiff, Nat.reduceLT, Nat.reduceEqDiff, hw, hw2]; try rfl) | refine T_seq ?_ | (refine And.intro ?_ ?_; focus (intros; simp_all only [Bool.or_eq_false_iff, Bool.or_eq_true, Bool.and_eq_true, and_self, true_and, and_true]; done))
  refine T_cond rfl (fun hq => ?_) (fun hq => ?_)
  · repeat' first | refine T_seq_region rfl ?_ | refine T_region rfl ?_ | refine T_ret ?_ | refine T_block ?_ | refine T_skip ?_ | refine T_exit ?_ | (simp (maxSteps := 2000000) only [go_sem, Nat.reduceAdd, Nat.reduceMul, Nat.reduceBEq, Nat.reduceLeDiff, Nat.reduceLT, Nat.reduceEqDiff]; try rfl) | refine T_seq ?_ | (refine And.intro ?_ ?_; focus (intros; simp_all only [Bool.or_eq_false_iff, Bool.or_eq_true, Bool.and_eq_true, and_self, true_and, and_true]; done))
    congr 1
    simp only [Bool.or_eq_true, Bool.not_eq_true', Bool.and_eq_false_iff, decide_eq_false_iff_not] at hq
    rcases hq with (((hq | hq) | hq) | hq) | hq
    · rw [hq]; rfl
    · rw [hq, Bool.and_false]; rfl
    · rw [decide_eq_false (p := 0 ≤ p.ship ∧ _) (by omega), Bool.false_and, Bool.and_false]
    · rw [decide_eq_false (p := 0 ≤ p.ship ∧ _) (by omega), Bool.false_and, Bool.and_false]
    · rw [decide_eq_false (p := 0 ≤ p.ship ∧ _) (by omega), Bool.false_and, Bool.and_false]
  · simp only [Bool.or_eq_false_iff, Bool.not_eq_false', Bool.and_eq_true, decide_eq_true_eq] at hq
    obtain ⟨⟨⟨⟨hC, hF⟩, h1, h2⟩, h3, h4⟩, h5, h6⟩ := hq
    have h2' : p.ship < (a.l.length : Int) := by omega
    have h4' : p.seg < (c.segments.l.length : Int) := by omega
    have hs' : p.seg.toNat < c.segments.l.length := by omega
    have hp' : p.ship.toNat < a.l.length := by omega
    have hsh : F_ShipOk a.l[p.ship.toNat] = true := by
      have h9 := of_decide_eq_true (Bool.and_eq_true_iff.1 hF).2 p.ship.toNat hp'
      rw [shOk, hget hp'] at h9
      exact (Bool.and_eq_true_iff.1 h9).1
    rw [hC, hF, Bool.and_self, Bool.true_and, gget hs', hget hp']
    repeat' first | refine T_seq_region rfl ?_ | refine T_region rfl ?_ | refine T_ret ?_ | refine T_block ?_ | refine T_skip ?_ | refine T_exit ?_ | (simp (maxSteps := 2000000) only [go_sem, Nat.reduceAdd, Nat.reduceMul, Nat.reduceBEq, Nat.reduceLeDiff, Nat.reduceLT, Nat.reduceEqDiff]; try rfl) | refine T_seq ?_ | (refine And.intro ?_ ?_; focus (intros; simp_all only [Bool.or_eq_false_iff, Bool.or_eq_true, Bool.and_eq_true, and_self, true_and, and_true]; done))
    refine T_any rfl ?_
    refine V_takes [0, 1, 2, 3, 4, 5, 6, 7, 8, 9, 10, 11] rfl (by kernel_rfl) ?_
    simp (maxSteps := 2000000) only [go_sem, Nat.reduceAdd, Nat.reduceMul, Nat.reduceBEq, Nat.reduceLeDiff, Nat.reduceLT, Nat.reduceEqDiff, at_DShip ha hp', ha.some hp', hp', h1, h2']
    refine V_branch [12] (by kernel_rfl) (by kernel_rfl) ?_
    simp (maxSteps := 2000000) only [go_sem, Nat.reduceAdd, Nat.reduceMul, Nat.reduceBEq, Nat.reduceLeDiff, Nat.reduceLT, Nat.reduceEqDiff, at_DShip ha hp', ha.some hp', hp', h1, h2']
    refine vfn_val (fun _ => spec_MinutesOn_fn c _ _ _ hc (ha.el hp')) ?_
    simp (maxSteps := 2000000) only [go_sem, Nat.reduceAdd, Nat.reduceMul, Nat.reduceBEq, Nat.reduceLeDiff, Nat.reduceLT, Nat.reduceEqDiff, at_DShip ha hp', ha.some hp', hp', h1, h2']
    refine V_takes [13, 14, 15, 16, 17, 18, 19, 20] rfl (by kernel_rfl) ?_
    simp (maxSteps := 2000000) only [go_sem, Nat.reduceAdd, Nat.reduceMul, Nat.reduceBEq, Nat.reduceLeDiff, Nat.reduceLT, Nat.reduceEqDiff]
    refine V_done (by kernel_rfl) ?_
    repeat' first | refine T_seq_region rfl ?_ | refine T_region rfl ?_ | refine T_ret ?_ | refine T_block ?_ | refine T_skip ?_ | refine T_exit ?_ | (simp (maxSteps := 2000000) only [go_sem, Nat.reduceAdd, Nat.reduceMul, Nat.reduceBEq, Nat.reduceLeDiff, Nat.reduceLT, Nat.reduceEqDiff]; try rfl) | refine T_seq ?_ | (refine And.intro ?_ ?_; focus (intros; simp_all only [Bool.or_eq_false_iff, Bool.or_eq_true, Bool.and_eq_true, and_self, true_and, and_true]; done))
    rw [if_pos ⟨hC, hsh, h3, h4'⟩, gget hs']
    congr 1
    rw [Bool.eq_iff_iff]
    simp only [Bool.and_eq_true, decide_eq_true_eq, beq_iff_eq]
    constructor <;> intro hh <;> omega
end Go.Proofs.Ytfbdafdbinbeaaa
