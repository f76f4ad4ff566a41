/- What functions of the given program compute, each as a contract over what its arguments read as. No condition beside those that each theorem states. -/
import Derived.Test.YtfbdafdbinbeaaaChn
set_option linter.unusedVariables false
set_option linter.unusedSimpArgs false
namespace Go.Proofs.Ytfbdafdbinbeaaa
open Go Go.SL
set_option maxHeartbeats 1000000

@[go_sem] theorem ev_tkb (t1 fs d t p af gd tk) : tkPut (⟨d, .build t1 fs, t, p, af, gd⟩ : Oper) tk = ⟨d, .build t1 fs, t, p, af, gd⟩ :: tk := rfl

def pOk (c : PChart) (f : List DShip) (l : List DPassage) (i : Nat) : Bool := F_PassageOk c f (l.getD i dQ)
def F_duty (c : PChart) (p q : DPassage) : DDuty := ⟨p.start, q.fin, (F_ends c p).1, (F_ends c q).2⟩
def F_PilotDuty (c : PChart) (f : List DShip) (l : List DPassage) : DDuty × Bool :=
  if (decide (0 < l.length) && F_IsChain c l && decide (∀ i, i < l.length → pOk c f l i = true)) = true then (F_duty c (l.getD 0 dQ) (l.getD (l.length - 1) dQ), true) else (⟨0, 0, 0, 0⟩, false)
theorem F_PilotDuty_no {c : PChart} {f : List DShip} {l : List DPassage} (h : (decide (0 < l.length) && F_IsChain c l && decide (∀ i, i < l.length → pOk c f l i = true)) = false) : F_PilotDuty c f l = (⟨0, 0, 0, 0⟩, false) := by rw [F_PilotDuty, if_neg (by rw [h]; exact Bool.false_ne_true)]
theorem F_PilotDuty_yes {c : PChart} {f : List DShip} {l : List DPassage} (h1 : 0 < l.length) (h2 : F_IsChain c l = true) (h3 : ∀ i, i < l.length → pOk c f l i = true) : F_PilotDuty c f l = (F_duty c (l.getD 0 dQ) (l.getD (l.length - 1) dQ), true) := by rw [F_PilotDuty, if_pos (by rw [decide_eq_true h1, h2, decide_eq_true h3]; rfl)]
theorem chain_seg {c : DChart} {l : List DPassage} (h : F_IsChain (Con.con c) l = true) {i : Nat} (hi : i < l.length) : 0 ≤ l[i].seg ∧ l[i].seg < (c.segments.l.length : Int) :=
  chIn_seg hi (chOk_in (of_decide_eq_true (Bool.and_eq_true_iff.1 h).2 i hi))

theorem impl_duty_fn (c : DChart) (p q : DPassage) (h : Hp) (hc : Enc.ok h c) (h1 : 0 ≤ p.seg) (h2 : p.seg < c.segments.l.length) (h3 : 0 ≤ q.seg) (h4 : q.seg < c.segments.l.length) : Ct Try.prog 89 [c.v, p.v, q.v] h fun v h' => v = (F_duty (Con.con c) p q).v ∧ h' = h := by
  refine Ct_of_T (fun A W => by simp) Try.func89 rfl rfl (by simp) fun W0 => ?_
  repeat' first | refine T_seq_region rfl ?_ | refine T_region rfl ?_ | refine T_ret ?_ | refine T_block ?_ | refine T_skip ?_ | refine T_exit ?_ | refine vfn_val (fun _ => impl_ends_fn c p _ hc h1 h2) ?_ | refine vfn_val (fun _ => impl_ends_fn c q _ hc h3 h4) ?_ | (simp (maxSteps := 2000000) only [go_sem, Nat.reduceAdd, Nat.reduceMul, Nat.reduceBEq, Nat.reduceLeDiff, Nat.reduceLT, Nat.reduceEqDiff]; try rfl) | refine T_seq ?_ | (refine And.intro ?_ ?_; focus (intros; simp_all only [Bool.or_eq_false_iff, Bool.or_eq_true, Bool.and_eq_true, and_self, true_and, and_true]; done))

theorem spec_PilotDuty_f0 (c : DChart) (f : Sl DShip) (a : Sl DPassage) (h : Hp) (hc : Enc.ok h c) (hf : f.Ok h) (ha : a.Ok h) : Ct Try.prog 33 [c.v, f.val, a.val] h fun v h' => v = .tuple #[(F_PilotDuty (Con.con c) f.l a.l).1.v, .bool (F_PilotDuty (Con.con c) f.l a.l).2] ∧ h' = h := by
  have hl := ha.max
  refine Ct_of_T (fun A W => by simp) Try.func33 rfl rfl (by simp) fun W0 => ?_
  repeat' first | refine T_seq_region rfl ?_ | refine T_region rfl ?_ | refine T_ret ?_ | refine T_block ?_ | refine T_skip ?_ | refine T_exit ?_ | refine vfn_val (fun _ => spec_IsChain_fn c a _ hc ha) ?_ | (simp (maxSteps := 2000000) only [go_sem, Nat.reduceAdd, Nat.reduceMul, Nat.reduceBEq, Nat.reduceLeDiff, Nat.reduceLT, Nat.reduceEqDiff]; try rfl) | refine T_seq ?_ | (refine And.intro ?_ ?_; focus (intros; simp_all only [Bool.or_eq_false_iff, Bool.or_eq_true, Bool.and_eq_true, and_self, true_and, and_true]; done))
  refine T_cond rfl (fun hq => ?_) (fun hq => ?_)
  · rw [F_PilotDuty_no (by
      simp only [Bool.or_eq_true, Bool.not_eq_true', decide_eq_true_eq, beq_iff_eq] at hq
      rcases hq with hq | hq
      · rw [decide_eq_false (by omega), Bool.false_and, Bool.false_and]
      · rw [hq, Bool.and_false, Bool.false_and])]
    repeat' first | refine T_seq_region rfl ?_ | refine T_region rfl ?_ | refine T_ret ?_ | refine T_block ?_ | refine T_skip ?_ | refine T_exit ?_ | (simp (maxSteps := 2000000) only [go_sem, Nat.reduceAdd, Nat.reduceMul, Nat.reduceBEq, Nat.reduceLeDiff, Nat.reduceLT, Nat.reduceEqDiff]; try rfl) | refine T_seq ?_ | (refine And.intro ?_ ?_; focus (intros; simp_all only [Bool.or_eq_false_iff, Bool.or_eq_true, Bool.and_eq_true, and_self, true_and, and_true]; done))
  simp only [Bool.or_eq_false_iff, Bool.not_eq_false', beq_eq_false_iff_ne, ne_eq, decide_eq_false_iff_not] at hq
  obtain ⟨hq1, hC⟩ := hq
  have h0 : 0 < a.l.length := by omega
  repeat' first | refine T_seq_region rfl ?_ | refine T_region rfl ?_ | refine T_ret ?_ | refine T_block ?_ | refine T_skip ?_ | refine T_exit ?_ | (simp (maxSteps := 2000000) only [go_sem, Nat.reduceAdd, Nat.reduceMul, Nat.reduceBEq, Nat.reduceLeDiff, Nat.reduceLT, Nat.reduceEqDiff]; try rfl) | refine T_seq ?_ | (refine And.intro ?_ ?_; focus (intros; simp_all only [Bool.or_eq_false_iff, Bool.or_eq_true, Bool.and_eq_true, and_self, true_and, and_true]; done))
  refine T_loop (ι := Nat) (fun k => ⟨[(1, true, .c (.v f.val)), (2, true, .c (.v a.val)), (3, true, .c (.p 0 0)), (6, true, .c (.p 1 0)), (25, true, .c (.v a.val)), (26, true, .c (.v (.int .i64 a.l.length))), (27, true, .c (.v (.int .i64 k)))], [(0, .box 62 [.v c.points.val, .v c.segments.val]), (1, .box 56 [.v (.int .i64 0), .v (.int .i64 0), .v (.int .i64 0), .v (.int .i64 0)])], h, 2⟩) (fun k => k ≤ a.l.length ∧ ∀ i, i < k → pOk (Con.con c) f.l a.l i = true) (fun k => a.l.length - k) 0 ⟨Nat.zero_le _, allN_zero⟩ ?_ ?_
  · simp (maxSteps := 2000000) only [go_sem, Nat.reduceAdd, Nat.reduceMul, Nat.reduceBEq, Nat.reduceLeDiff, Nat.reduceLT, Nat.reduceEqDiff]
    first | exact rfl | exact ⟨rfl, rfl⟩ | exact ⟨rfl, rfl, rfl⟩ | exact ⟨rfl, rfl, rfl, rfl⟩ | exact ⟨rfl, rfl, rfl, rfl, rfl⟩
  intro k hk
  repeat' first | refine T_seq_region rfl ?_ | refine T_region rfl ?_ | refine T_ret ?_ | refine T_block ?_ | refine T_skip ?_ | refine T_exit ?_ | (simp (maxSteps := 2000000) only [go_sem, Nat.reduceAdd, Nat.reduceMul, Nat.reduceBEq, Nat.reduceLeDiff, Nat.reduceLT, Nat.reduceEqDiff]; try rfl) | refine T_seq ?_ | (refine And.intro ?_ ?_; focus (intros; simp_all only [Bool.or_eq_false_iff, Bool.or_eq_true, Bool.and_eq_true, and_self, true_and, and_true]; done))
  refine T_cond rfl (fun hd => ?_) (fun hd => ?_)
  · have hlt := lt_of_dec hd
    repeat' first | refine T_seq_region rfl ?_ | refine T_region rfl ?_ | refine T_ret ?_ | refine T_block ?_ | refine T_skip ?_ | refine T_exit ?_ | refine vfn_val (fun _ => spec_PassageOk_fn c f _ _ hc hf) ?_ | (simp (maxSteps := 2000000) only [go_sem, Nat.reduceAdd, Nat.reduceMul, Nat.reduceBEq, Nat.reduceLeDiff, Nat.reduceLT, Nat.reduceEqDiff, at_DPassage ha hlt, ha.some hlt, hlt, Int.toNat_natCast]; try rfl) | refine T_seq ?_ | (refine And.intro ?_ ?_; focus (intros; simp_all only [Bool.or_eq_false_iff, Bool.or_eq_true, Bool.and_eq_true, and_self, true_and, and_true]; done))
    refine T_cond rfl (fun hx => ?_) (fun hx => ?_)
    · rw [Bool.not_eq_true'] at hx
      rw [F_PilotDuty_no (by rw [allN_false hlt (by rw [pOk, qget hlt]; exact hx), Bool.and_false])]
      repeat' first | refine T_seq_region rfl ?_ | refine T_region rfl ?_ | refine T_ret ?_ | refine T_block ?_ | refine T_skip ?_ | refine T_exit ?_ | (simp (maxSteps := 2000000) only [go_sem, Nat.reduceAdd, Nat.reduceMul, Nat.reduceBEq, Nat.reduceLeDiff, Nat.reduceLT, Nat.reduceEqDiff]; try rfl) | refine T_seq ?_ | (refine And.intro ?_ ?_; focus (intros; simp_all only [Bool.or_eq_false_iff, Bool.or_eq_true, Bool.and_eq_true, and_self, true_and, and_true]; done))
    · rw [Bool.not_eq_false'] at hx
      repeat' first | refine T_seq_region rfl ?_ | refine T_region rfl ?_ | refine T_ret ?_ | refine T_block ?_ | refine T_skip ?_ | refine T_exit ?_ | (simp (maxSteps := 2000000) only [go_sem, Nat.reduceAdd, Nat.reduceMul, Nat.reduceBEq, Nat.reduceLeDiff, Nat.reduceLT, Nat.reduceEqDiff]; try rfl) | refine T_seq ?_ | (refine And.intro ?_ ?_; focus (intros; simp_all only [Bool.or_eq_false_iff, Bool.or_eq_true, Bool.and_eq_true, and_self, true_and, and_true]; done))
      exact ⟨k + 1, ⟨hlt, allN_next hk.2 (by rw [pOk, qget hlt]; exact hx)⟩, by omega, svInt (wrapS hlt (by omega))⟩
  · have hge := ge_of_dec hd
    have hke : k = a.l.length := by omega
    have hn1 : a.l.length - 1 < a.l.length := by omega
    have hwn : IntKind.i64.wrap ((a.l.length : Int) - 1) = ((a.l.length - 1 : Nat) : Int) := by rw [wrap64 (by omega)]; omega
    obtain ⟨h1, h2⟩ := chain_seg hC h0
    obtain ⟨h3, h4⟩ := chain_seg hC hn1
    rw [F_PilotDuty_yes h0 hC (fun i hi => hk.2 i (by omega)), qget h0, qget hn1]
    have h0i : (0 : Int) < a.l.length := by omega
    have ha0 := ha.some h0
    have hs0 := at_DPassage ha h0
    have hs1 := (fs_DPassage ha h0)
    simp only [go_sem, Nat.zero_mul] at hs0 hs1
    repeat' first | refine T_seq_region rfl ?_ | refine T_region rfl ?_ | refine T_ret ?_ | refine T_block ?_ | refine T_skip ?_ | refine T_exit ?_ | (simp (maxSteps := 2000000) only [go_sem, Nat.reduceAdd, Nat.reduceMul, Nat.reduceBEq, Nat.reduceLeDiff, Nat.reduceLT, Nat.reduceEqDiff, at_DPassage ha hn1, ha.some hn1, hn1, Int.toNat_natCast, hwn]; try rfl) | refine T_seq ?_ | (refine And.intro ?_ ?_; focus (intros; simp_all only [Bool.or_eq_false_iff, Bool.or_eq_true, Bool.and_eq_true, and_self, true_and, and_true]; done))
    refine T_any rfl ?_
    refine V_takes [0, 1, 2, 3] rfl (by kernel_rfl) ?_
    simp (maxSteps := 2000000) only [go_sem, Nat.reduceAdd, Nat.reduceMul, Nat.reduceBEq, Nat.reduceLeDiff, Nat.reduceLT, Nat.reduceEqDiff, ha0, hs0, hs1, h0i, Int.toNat_zero, Nat.zero_mul, Int.le_refl, implies_true, true_and, and_true]
    refine V_branch [4] (by kernel_rfl) (by kernel_rfl) ?_
    simp (maxSteps := 2000000) only [go_sem, Nat.reduceAdd, Nat.reduceMul, Nat.reduceBEq, Nat.reduceLeDiff, Nat.reduceLT, Nat.reduceEqDiff, ha0, hs0, hs1, h0i, Int.toNat_zero, Nat.zero_mul, Int.le_refl, implies_true, true_and, and_true]
    refine vfn_val (fun _ => spec_l08Ends_fn c _ _ hc h1 h2) ?_
    simp (maxSteps := 2000000) only [go_sem, Nat.reduceAdd, Nat.reduceMul, Nat.reduceBEq, Nat.reduceLeDiff, Nat.reduceLT, Nat.reduceEqDiff, ha0, hs0, hs1, h0i, Int.toNat_zero, Nat.zero_mul, Int.le_refl, implies_true, true_and, and_true]
    refine V_takes [5, 6, 7, 8, 9] rfl (by kernel_rfl) ?_
    simp (maxSteps := 2000000) only [go_sem, Nat.reduceAdd, Nat.reduceMul, Nat.reduceBEq, Nat.reduceLeDiff, Nat.reduceLT, Nat.reduceEqDiff, ha0, hs0, hs1, h0i, Int.toNat_zero, Nat.zero_mul, Int.le_refl, implies_true, true_and, and_true]
    refine V_done (by kernel_rfl) ?_
    repeat' first | refine T_seq_region rfl ?_ | refine T_region rfl ?_ | refine T_ret ?_ | refine T_block ?_ | refine T_skip ?_ | refine T_exit ?_ | refine vfn_val (fun _ => spec_l08Ends_fn c _ _ hc h3 h4) ?_ | (simp (maxSteps := 2000000) only [go_sem, Nat.reduceAdd, Nat.reduceMul, Nat.reduceBEq, Nat.reduceLeDiff, Nat.reduceLT, Nat.reduceEqDiff]; try rfl) | refine T_seq ?_ | (refine And.intro ?_ ?_; focus (intros; simp_all only [Bool.or_eq_false_iff, Bool.or_eq_true, Bool.and_eq_true, and_self, true_and, and_true]; done))
    refine T_any rfl ?_
    refine V_takes [0, 1, 2, 3, 4, 5, 6, 7] rfl (by kernel_rfl) ?_
    simp (maxSteps := 2000000) only [go_sem, Nat.reduceAdd, Nat.reduceMul, Nat.reduceBEq, Nat.reduceLeDiff, Nat.reduceLT, Nat.reduceEqDiff, ha0, hs0, hs1, h0i, Int.toNat_zero, Nat.zero_mul, Int.le_refl, implies_true, true_and, and_true]
    refine V_branch [8] (by kernel_rfl) (by kernel_rfl) ?_
    simp (maxSteps := 2000000) only [go_sem, Nat.reduceAdd, Nat.reduceMul, Nat.reduceBEq, Nat.reduceLeDiff, Nat.reduceLT, Nat.reduceEqDiff, ha0, hs0, hs1, h0i, Int.toNat_zero, Nat.zero_mul, Int.le_refl, implies_true, true_and, and_true]
    refine V_branch [9] (by kernel_rfl) (by kernel_rfl) ?_
    simp (maxSteps := 2000000) only [go_sem, Nat.reduceAdd, Nat.reduceMul, Nat.reduceBEq, Nat.reduceLeDiff, Nat.reduceLT, Nat.reduceEqDiff, ha0, hs0, hs1, h0i, Int.toNat_zero, Nat.zero_mul, Int.le_refl, implies_true, true_and, and_true]
    refine V_takes [10] rfl (by kernel_rfl) ?_
    simp (maxSteps := 2000000) only [go_sem, Nat.reduceAdd, Nat.reduceMul, Nat.reduceBEq, Nat.reduceLeDiff, Nat.reduceLT, Nat.reduceEqDiff, ha0, hs0, hs1, h0i, Int.toNat_zero, Nat.zero_mul, Int.le_refl, implies_true, true_and, and_true]
    refine V_done (by kernel_rfl) ?_
    repeat' first | refine T_seq_region rfl ?_ | refine T_region rfl ?_ | refine T_ret ?_ | refine T_block ?_ | refine T_skip ?_ | refine T_exit ?_ | (simp (maxSteps := 2000000) only [go_sem, Nat.reduceAdd, Nat.reduceMul, Nat.reduceBEq, Nat.reduceLeDiff, Nat.reduceLT, Nat.reduceEqDiff]; try rfl) | refine T_seq ?_ | (refine And.intro ?_ ?_; focus (intros; simp_all only [Bool.or_eq_false_iff, Bool.or_eq_true, Bool.and_eq_true, and_self, true_and, and_true]; done))

theorem impl_PilotDuty_f0 (c : DChart) (f : Sl DShip) (a : Sl DPassage) (h : Hp) (hc : Enc.ok h c) (hf : f.Ok h) (ha : a.Ok h) : Ct Try.prog 37 [c.v, f.val, a.val] h fun v h' => v = .tuple #[(F_PilotDuty (Con.con c) f.l a.l).1.v, .bool (F_PilotDuty (Con.con c) f.l a.l).2] ∧ h' = h := by
  have hl := ha.max
  refine Ct_of_T (fun A W => by simp) Try.func37 rfl rfl (by simp) fun W0 => ?_
  repeat' first | refine T_seq_region rfl ?_ | refine T_region rfl ?_ | refine T_ret ?_ | refine T_block ?_ | refine T_skip ?_ | refine T_exit ?_ | refine vfn_val (fun _ => impl_IsChain_fn c a _ hc ha) ?_ | (simp (maxSteps := 2000000) only [go_sem, Nat.reduceAdd, Nat.reduceMul, Nat.reduceBEq, Nat.reduceLeDiff, Nat.reduceLT, Nat.reduceEqDiff]; try rfl) | refine T_seq ?_ | (refine And.intro ?_ ?_; focus (intros; simp_all only [Bool.or_eq_false_iff, Bool.or_eq_true, Bool.and_eq_true, and_self, true_and, and_true]; done))
  refine T_cond rfl (fun hq => ?_) (fun hq => ?_)
  · rw [F_PilotDuty_no (by
      simp only [Bool.or_eq_true, Bool.not_eq_true', decide_eq_true_eq, beq_iff_eq] at hq
      rcases hq with hq | hq
      · rw [decide_eq_false (by omega), Bool.false_and, Bool.false_and]
      · rw [hq, Bool.and_false, Bool.false_and])]
    repeat' first | refine T_seq_region rfl ?_ | refine T_region rfl ?_ | refine T_ret ?_ | refine T_block ?_ | refine T_skip ?_ | refine T_exit ?_ | (simp (maxSteps := 2000000) only [go_sem, Nat.reduceAdd, Nat.reduceMul, Nat.reduceBEq, Nat.reduceLeDiff, Nat.reduceLT, Nat.reduceEqDiff]; try rfl) | refine T_seq ?_ | (refine And.intro ?_ ?_; focus (intros; simp_all only [Bool.or_eq_false_iff, Bool.or_eq_true, Bool.and_eq_true, and_self, true_and, and_true]; done))
  simp only [Bool.or_eq_false_iff, Bool.not_eq_false', beq_eq_false_iff_ne, ne_eq, decide_eq_false_iff_not] at hq
  obtain ⟨hq1, hC⟩ := hq
  have h0 : 0 < a.l.length := by omega
  repeat' first | refine T_seq_region rfl ?_ | refine T_region rfl ?_ | refine T_ret ?_ | refine T_block ?_ | refine T_skip ?_ | refine T_exit ?_ | (simp (maxSteps := 2000000) only [go_sem, Nat.reduceAdd, Nat.reduceMul, Nat.reduceBEq, Nat.reduceLeDiff, Nat.reduceLT, Nat.reduceEqDiff]; try rfl) | refine T_seq ?_ | (refine And.intro ?_ ?_; focus (intros; simp_all only [Bool.or_eq_false_iff, Bool.or_eq_true, Bool.and_eq_true, and_self, true_and, and_true]; done))
  refine T_loop (ι := Nat) (fun k => ⟨[(1, true, .c (.v f.val)), (2, true, .c (.v a.val)), (3, true, .c (.p 0 0)), (6, true, .c (.p 1 0)), (20, true, .c (.v a.val)), (21, true, .c (.v (.int .i64 a.l.length))), (22, true, .c (.v (.int .i64 k)))], [(0, .box 62 [.v c.points.val, .v c.segments.val]), (1, .box 56 [.v (.int .i64 0), .v (.int .i64 0), .v (.int .i64 0), .v (.int .i64 0)])], h, 2⟩) (fun k => k ≤ a.l.length ∧ ∀ i, i < k → pOk (Con.con c) f.l a.l i = true) (fun k => a.l.length - k) 0 ⟨Nat.zero_le _, allN_zero⟩ ?_ ?_
  · simp (maxSteps := 2000000) only [go_sem, Nat.reduceAdd, Nat.reduceMul, Nat.reduceBEq, Nat.reduceLeDiff, Nat.reduceLT, Nat.reduceEqDiff]
    first | exact rfl | exact ⟨rfl, rfl⟩ | exact ⟨rfl, rfl, rfl⟩ | exact ⟨rfl, rfl, rfl, rfl⟩ | exact ⟨rfl, rfl, rfl, rfl, rfl⟩
  intro k hk
  repeat' first | refine T_seq_region rfl ?_ | refine T_region rfl ?_ | refine T_ret ?_ | refine T_block ?_ | refine T_skip ?_ | refine T_exit ?_ | (simp (maxSteps := 2000000) only [go_sem, Nat.reduceAdd, Nat.reduceMul, Nat.reduceBEq, Nat.reduceLeDiff, Nat.reduceLT, Nat.reduceEqDiff]; try rfl) | refine T_seq ?_ | (refine And.intro ?_ ?_; focus (intros; simp_all only [Bool.or_eq_false_iff, Bool.or_eq_true, Bool.and_eq_true, and_self, true_and, and_true]; done))
  refine T_cond rfl (fun hd => ?_) (fun hd => ?_)
  · have hlt := lt_of_dec hd
    repeat' first | refine T_seq_region rfl ?_ | refine T_region rfl ?_ | refine T_ret ?_ | refine T_block ?_ | refine T_skip ?_ | refine T_exit ?_ | refine vfn_val (fun _ => impl_PassageOk_fn c f _ _ hc hf) ?_ | (simp (maxSteps := 2000000) only [go_sem, Nat.reduceAdd, Nat.reduceMul, Nat.reduceBEq, Nat.reduceLeDiff, Nat.reduceLT, Nat.reduceEqDiff, at_DPassage ha hlt, ha.some hlt, hlt, Int.toNat_natCast]; try rfl) | refine T_seq ?_ | (refine And.intro ?_ ?_; focus (intros; simp_all only [Bool.or_eq_false_iff, Bool.or_eq_true, Bool.and_eq_true, and_self, true_and, and_true]; done))
    refine T_cond rfl (fun hx => ?_) (fun hx => ?_)
    · rw [Bool.not_eq_true'] at hx
      rw [F_PilotDuty_no (by rw [allN_false hlt (by rw [pOk, qget hlt]; exact hx), Bool.and_false])]
      repeat' first | refine T_seq_region rfl ?_ | refine T_region rfl ?_ | refine T_ret ?_ | refine T_block ?_ | refine T_skip ?_ | refine T_exit ?_ | (simp (maxSteps := 2000000) only [go_sem, Nat.reduceAdd, Nat.reduceMul, Nat.reduceBEq, Nat.reduceLeDiff, Nat.reduceLT, Nat.reduceEqDiff]; try rfl) | refine T_seq ?_ | (refine And.intro ?_ ?_; focus (intros; simp_all only [Bool.or_eq_false_iff, Bool.or_eq_true, Bool.and_eq_true, and_self, true_and, and_true]; done))
    · rw [Bool.not_eq_false'] at hx
      repeat' first | refine T_seq_region rfl ?_ | refine T_region rfl ?_ | refine T_ret ?_ | refine T_block ?_ | refine T_skip ?_ | refine T_exit ?_ | (simp (maxSteps := 2000000) only [go_sem, Nat.reduceAdd, Nat.reduceMul, Nat.reduceBEq, Nat.reduceLeDiff, Nat.reduceLT, Nat.reduceEqDiff]; try rfl) | refine T_seq ?_ | (refine And.intro ?_ ?_; focus (intros; simp_all only [Bool.or_eq_false_iff, Bool.or_eq_true, Bool.and_eq_true, and_self, true_and, and_true]; done))
      exact ⟨k + 1, ⟨hlt, allN_next hk.2 (by rw [pOk, qget hlt]; exact hx)⟩, by omega, svInt (wrapS hlt (by omega))⟩
  · have hge := ge_of_dec hd
    have hke : k = a.l.length := by omega
    have hn1 : a.l.length - 1 < a.l.length := by omega
    have hwn : IntKind.i64.wrap ((a.l.length : Int) - 1) = ((a.l.length - 1 : Nat) : Int) := by rw [wrap64 (by omega)]; omega
    obtain ⟨h1, h2⟩ := chain_seg hC h0
    obtain ⟨h3, h4⟩ := chain_seg hC hn1
    rw [F_PilotDuty_yes h0 hC (fun i hi => hk.2 i (by omega)), qget h0, qget hn1]
    have h0i : (0 : Int) < a.l.length := by omega
    have ha0 := ha.some h0
    have hs0 := at_DPassage ha h0
    have hs1 := (fs_DPassage ha h0)
    simp only [go_sem, Nat.zero_mul] at hs0 hs1
    repeat' first | refine T_seq_region rfl ?_ | refine T_region rfl ?_ | refine T_ret ?_ | refine T_block ?_ | refine T_skip ?_ | refine T_exit ?_ | (simp (maxSteps := 2000000) only [go_sem, Nat.reduceAdd, Nat.reduceMul, Nat.reduceBEq, Nat.reduceLeDiff, Nat.reduceLT, Nat.reduceEqDiff]; try rfl) | refine T_seq ?_ | (refine And.intro ?_ ?_; focus (intros; simp_all only [Bool.or_eq_false_iff, Bool.or_eq_true, Bool.and_eq_true, and_self, true_and, and_true]; done))
    refine T_any rfl ?_
    refine V_takes [0, 1, 2, 3, 4, 5, 6, 7, 8, 9] rfl (by kernel_rfl) ?_
    simp (maxSteps := 2000000) only [go_sem, Nat.reduceAdd, Nat.reduceMul, Nat.reduceBEq, Nat.reduceLeDiff, Nat.reduceLT, Nat.reduceEqDiff, ha0, hs0, hs1, h0i, Int.toNat_zero, Nat.zero_mul, Int.le_refl, implies_true, true_and, and_true, at_DPassage ha hn1, ha.some hn1, hn1, Int.toNat_natCast, hwn]
    refine V_branch [10] (by kernel_rfl) (by kernel_rfl) ?_
    simp (maxSteps := 2000000) only [go_sem, Nat.reduceAdd, Nat.reduceMul, Nat.reduceBEq, Nat.reduceLeDiff, Nat.reduceLT, Nat.reduceEqDiff, ha0, hs0, hs1, h0i, Int.toNat_zero, Nat.zero_mul, Int.le_refl, implies_true, true_and, and_true, at_DPassage ha hn1, ha.some hn1, hn1, Int.toNat_natCast, hwn]
    refine vfn_val (fun _ => impl_duty_fn c _ _ _ hc h1 h2 h3 h4) ?_
    simp (maxSteps := 2000000) only [go_sem, Nat.reduceAdd, Nat.reduceMul, Nat.reduceBEq, Nat.reduceLeDiff, Nat.reduceLT, Nat.reduceEqDiff, ha0, hs0, hs1, h0i, Int.toNat_zero, Nat.zero_mul, Int.le_refl, implies_true, true_and, and_true, at_DPassage ha hn1, ha.some hn1, hn1, Int.toNat_natCast, hwn]
    refine V_branch [11] (by kernel_rfl) (by kernel_rfl) ?_
    simp (maxSteps := 2000000) only [go_sem, Nat.reduceAdd, Nat.reduceMul, Nat.reduceBEq, Nat.reduceLeDiff, Nat.reduceLT, Nat.reduceEqDiff, ha0, hs0, hs1, h0i, Int.toNat_zero, Nat.zero_mul, Int.le_refl, implies_true, true_and, and_true, at_DPassage ha hn1, ha.some hn1, hn1, Int.toNat_natCast, hwn]
    refine V_takes [12] rfl (by kernel_rfl) ?_
    simp (maxSteps := 2000000) only [go_sem, Nat.reduceAdd, Nat.reduceMul, Nat.reduceBEq, Nat.reduceLeDiff, Nat.reduceLT, Nat.reduceEqDiff, ha0, hs0, hs1, h0i, Int.toNat_zero, Nat.zero_mul, Int.le_refl, implies_true, true_and, and_true, at_DPassage ha hn1, ha.some hn1, hn1, Int.toNat_natCast, hwn]
    refine V_done (by kernel_rfl) ?_
    repeat' first | refine T_seq_region rfl ?_ | refine T_region rfl ?_ | refine T_ret ?_ | refine T_block ?_ | refine T_skip ?_ | refine T_exit ?_ | (simp (maxSteps := 2000000) only [go_sem, Nat.reduceAdd, Nat.reduceMul, Nat.reduceBEq, Nat.reduceLeDiff, Nat.reduceLT, Nat.reduceEqDiff]; try rfl) | refine T_seq ?_ | (refine And.intro ?_ ?_; focus (intros; simp_all only [Bool.or_eq_false_iff, Bool.or_eq_true, Bool.and_eq_true, and_self, true_and, and_true]; done))

theorem con_pasl (s : Sl DPassage) : Con.con s = s.l := List.map_id _
theorem spec_PilotDuty_fn (c : DChart) (f : Sl DShip) (a : Sl DPassage) (h : Hp) (hc : Enc.ok h c) (hf : f.Ok h) (ha : a.Ok h) : Ct Try.prog 33 [c.v, f.val, a.val] h fun v h' => v = .tuple #[(F_PilotDuty (Con.con c) (Con.con f) (Con.con a)).1.v, .bool (F_PilotDuty (Con.con c) (Con.con f) (Con.con a)).2] ∧ h' = h := by
  rw [con_shipl, con_pasl]; exact spec_PilotDuty_f0 c f a h hc hf ha
theorem impl_PilotDuty_fn (c : DChart) (f : Sl DShip) (a : Sl DPassage) (h : Hp) (hc : Enc.ok h c) (hf : f.Ok h) (ha : a.Ok h) : Ct Try.prog 37 [c.v, f.val, a.val] h fun v h' => v = .tuple #[(F_PilotDuty (Con.con c) (Con.con f) (Con.con a)).1.v, .bool (F_PilotDuty (Con.con c) (Con.con f) (Con.con a)).2] ∧ h' = h := by
  rw [con_shipl, con_pasl]; exact impl_PilotDuty_f0 c f a h hc hf ha
theorem i64z : I64 0 := by unfold I64; omega
theorem F_PilotDuty_ok {c : DChart} {f : List DShip} {a : Sl DPassage} {h h2 : Hp} (hc : Enc.ok h c) (ha : a.Ok h) : Enc.ok h2 (F_PilotDuty (Con.con c) f (Con.con a)).1 := by
  rw [con_pasl, F_PilotDuty]
  split
  · rename_i hq
    simp only [Bool.and_eq_true, decide_eq_true_eq] at hq
    obtain ⟨⟨h0, hC⟩, -⟩ := hq
    have hn1 : a.l.length - 1 < a.l.length := by omega
    obtain ⟨h1, h2⟩ := chain_seg hC h0
    obtain ⟨h3, h4⟩ := chain_seg hC hn1
    have hs1 : a.l[0].seg.toNat < c.segments.l.length := by omega
    have hs2 : a.l[a.l.length - 1].seg.toNat < c.segments.l.length := by omega
    have o1 := ha.el h0
    have o2 := ha.el hn1
    have o3 := hc.2.el hs1
    have o4 := hc.2.el hs2
    show I64 _ ∧ I64 _ ∧ I64 _ ∧ I64 _
    rw [F_duty, qget h0, qget hn1, F_ends_eq _ _ hs1, F_ends_eq _ _ hs2]
    refine ⟨o1.2.2.1, o2.2.2.2, ?_, ?_⟩
    · dsimp only; split
      · exact o3.1
      · exact o3.2.1
    · dsimp only; split
      · exact o4.2.1
      · exact o4.1
  · exact ⟨i64z, i64z, i64z, i64z⟩
end Go.Proofs.Ytfbdafdbinbeaaa
