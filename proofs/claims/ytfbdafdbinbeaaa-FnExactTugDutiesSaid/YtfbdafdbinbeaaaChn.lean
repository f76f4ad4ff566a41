/- What functions of the given program compute, each as a contract over what its arguments read as. No condition beside those that each theorem states. -/
import Derived.Test.YtfbdafdbinbeaaaPas
set_option linter.unusedVariables false
set_option linter.unusedSimpArgs false
namespace Go.Proofs.Ytfbdafdbinbeaaa
open Go Go.SL
set_option maxHeartbeats 1000000

def dQ : DPassage := ⟨0, 0, false, 0, 0⟩
theorem qget {l : List DPassage} {i : Nat} (hi : i < l.length) : l.getD i dQ = l[i] := by simp [List.getD_eq_getElem?_getD, hi]
def chIn (n : Nat) (l : List DPassage) (i : Nat) : Bool := decide ((l.getD i dQ).ship = (l.getD 0 dQ).ship) && decide (0 ≤ (l.getD i dQ).seg ∧ (l.getD i dQ).seg < (n : Int))
def chTo (c : PChart) (l : List DPassage) (i : Nat) : Bool := decide (i = 0) || (decide ((F_ends c (l.getD i dQ)).1 = (F_ends c (l.getD (i - 1) dQ)).2) && decide ((l.getD (i - 1) dQ).fin ≤ (l.getD i dQ).start))
def chOk (c : PChart) (l : List DPassage) (i : Nat) : Bool := chIn c.segments.length l i && chTo c l i
def F_IsChain (c : PChart) (l : List DPassage) : Bool := F_ChartOk c && decide (∀ i, i < l.length → chOk c l i = true)
theorem seglen_con (c : DChart) : (Con.con c).segments.length = c.segments.l.length := by rw [segs_con]
theorem chIn_seg {n : Nat} {l : List DPassage} {i : Nat} (hi : i < l.length) (h : chIn n l i = true) : 0 ≤ l[i].seg ∧ l[i].seg < (n : Int) := by
  rw [chIn, qget hi] at h
  exact of_decide_eq_true (Bool.and_eq_true_iff.1 h).2
theorem chOk_in {c : DChart} {l : List DPassage} {i : Nat} (h : chOk (Con.con c) l i = true) : chIn c.segments.l.length l i = true := by
  rw [chOk, seglen_con] at h
  exact (Bool.and_eq_true_iff.1 h).1
theorem chOk_bad {c : DChart} {l : List DPassage} {i : Nat} (h : chIn c.segments.l.length l i = false) : chOk (Con.con c) l i = false := by rw [chOk, seglen_con, h, Bool.false_and]
theorem chOk_good {c : DChart} {l : List DPassage} {i : Nat} (h : chIn c.segments.l.length l i = true) (h2 : chTo (Con.con c) l i = true) : chOk (Con.con c) l i = true := by rw [chOk, seglen_con, h, h2]; rfl
theorem chOk_bad2 {c : DChart} {l : List DPassage} {i : Nat} (h2 : chTo (Con.con c) l i = false) : chOk (Con.con c) l i = false := by rw [chOk, h2, Bool.and_false]

theorem spec_IsChain_fn (c : DChart) (a : Sl DPassage) (h : Hp) (hc : Enc.ok h c) (ha : a.Ok h) : Ct Try.prog 80 [c.v, a.val] h fun v h' => v = .bool (F_IsChain (Con.con c) a.l) ∧ h' = h := by
  have hg := hc.2
  have hl := hg.max
  have hl2 := ha.max
  have hw : IntKind.i64.wrap ((c.segments.l.length : Int) - 1) = (c.segments.l.length : Int) - 1 := wrap64 (by omega)
  rw [F_IsChain]
  refine Ct_of_T (fun A W => by simp) Try.func80 rfl rfl (by simp) fun W0 => ?_
  repeat' first | refine T_seq_region rfl ?_ | refine T_region rfl ?_ | refine T_ret ?_ | refine T_block ?_ | refine T_skip ?_ | refine T_exit ?_ | refine vfn_val (fun _ => spec_ChartOk_fn c _ hc) ?_ | (simp (maxSteps := 2000000) only [go_sem, Nat.reduceAdd, Nat.reduceMul, Nat.reduceBEq, Nat.reduceLeDiff, Nat.reduceLT, Nat.reduceEqDiff]; try rfl) | refine T_seq ?_ | (refine And.intro ?_ ?_; focus (intros; simp_all only [Bool.or_eq_false_iff, Bool.or_eq_true, Bool.and_eq_true, and_self, true_and, and_true]; done))
  refine T_cond rfl (fun hC => ?_) (fun hC => ?_)
  · rw [Bool.not_eq_true'] at hC
    rw [hC]
    repeat' first | refine T_seq_region rfl ?_ | refine T_region rfl ?_ | refine T_ret ?_ | refine T_block ?_ | refine T_skip ?_ | refine T_exit ?_ | (simp (maxSteps := 2000000) only [go_sem, Nat.reduceAdd, Nat.reduceMul, Nat.reduceBEq, Nat.reduceLeDiff, Nat.reduceLT, Nat.reduceEqDiff]; try rfl) | refine T_seq ?_ | (refine And.intro ?_ ?_; focus (intros; simp_all only [Bool.or_eq_false_iff, Bool.or_eq_true, Bool.and_eq_true, and_self, true_and, and_true]; done))
  rw [Bool.not_eq_false'] at hC
  rw [hC, Bool.true_and]
  repeat' first | refine T_seq_region rfl ?_ | refine T_region rfl ?_ | refine T_ret ?_ | refine T_block ?_ | refine T_skip ?_ | refine T_exit ?_ | (simp (maxSteps := 2000000) only [go_sem, Nat.reduceAdd, Nat.reduceMul, Nat.reduceBEq, Nat.reduceLeDiff, Nat.reduceLT, Nat.reduceEqDiff]; try rfl) | refine T_seq ?_ | (refine And.intro ?_ ?_; focus (intros; simp_all only [Bool.or_eq_false_iff, Bool.or_eq_true, Bool.and_eq_true, and_self, true_and, and_true]; done))
  refine T_loop (ι := Nat) (fun k => ⟨[(1, true, .c (.v a.val)), (2, true, .c (.p 0 0)), (14, true, .c (.v a.val)), (15, true, .c (.v (.int .i64 a.l.length))), (16, true, .c (.v (.int .i64 k)))], [(0, .box 62 [.v c.points.val, .v c.segments.val])], h, 1⟩) (fun k => k ≤ a.l.length ∧ ∀ i, i < k → chOk (Con.con c) a.l i = true) (fun k => a.l.length - k) 0 ⟨Nat.zero_le _, allN_zero⟩ ?_ ?_
  · simp (maxSteps := 2000000) only [go_sem, Nat.reduceAdd, Nat.reduceMul, Nat.reduceBEq, Nat.reduceLeDiff, Nat.reduceLT, Nat.reduceEqDiff]
    first | exact rfl | exact ⟨rfl, rfl⟩ | exact ⟨rfl, rfl, rfl⟩ | exact ⟨rfl, rfl, rfl, rfl⟩ | exact ⟨rfl, rfl, rfl, rfl, rfl⟩
  intro k hk
  repeat' first | refine T_seq_region rfl ?_ | refine T_region rfl ?_ | refine T_ret ?_ | refine T_block ?_ | refine T_skip ?_ | refine T_exit ?_ | (simp (maxSteps := 2000000) only [go_sem, Nat.reduceAdd, Nat.reduceMul, Nat.reduceBEq, Nat.reduceLeDiff, Nat.reduceLT, Nat.reduceEqDiff]; try rfl) | refine T_seq ?_ | (refine And.intro ?_ ?_; focus (intros; simp_all only [Bool.or_eq_false_iff, Bool.or_eq_true, Bool.and_eq_true, and_self, true_and, and_true]; done))
  refine T_cond rfl (fun hd => ?_) (fun hd => ?_)
  · have hlt := lt_of_dec hd
    have h0 : 0 < a.l.length := by omega
    have h0i : (0 : Int) < a.l.length := by omega
    have ha0 := ha.some h0
    have hs1 := (fs_DPassage ha h0).1
    simp only [go_sem, Nat.zero_mul] at hs1
    repeat' first | refine T_seq_region rfl ?_ | refine T_region rfl ?_ | refine T_ret ?_ | refine T_block ?_ | refine T_skip ?_ | refine T_exit ?_ | (simp (maxSteps := 2000000) only [go_sem, Nat.reduceAdd, Nat.reduceMul, Nat.reduceBEq, Nat.reduceLeDiff, Nat.reduceLT, Nat.reduceEqDiff, at_DPassage ha hlt, ha.some hlt, hlt, Int.toNat_natCast]; try rfl) | refine T_seq ?_ | (refine And.intro ?_ ?_; focus (intros; simp_all only [Bool.or_eq_false_iff, Bool.or_eq_true, Bool.and_eq_true, and_self, true_and, and_true]; done))
    refine T_any rfl ?_
    refine V_takes [0, 1, 2, 3, 4, 5, 6, 7, 8, 9, 10, 11, 12, 13] rfl (by kernel_rfl) ?_
    simp (maxSteps := 2000000) only [go_sem, Nat.reduceAdd, Nat.reduceMul, Nat.reduceBEq, Nat.reduceLeDiff, Nat.reduceLT, Nat.reduceEqDiff, ha0, hs1, h0i, Int.toNat_zero, Nat.zero_mul, Int.le_refl, implies_true, true_and, and_true]
    refine V_branch [14] (by kernel_rfl) (by kernel_rfl) ?_
    simp (maxSteps := 2000000) only [go_sem, Nat.reduceAdd, Nat.reduceMul, Nat.reduceBEq, Nat.reduceLeDiff, Nat.reduceLT, Nat.reduceEqDiff, ha0, hs1, h0i, Int.toNat_zero, Nat.zero_mul, Int.le_refl, implies_true, true_and, and_true, hw]
    refine vfn_val (fun _ => l01In_fn _ _ _ _) ?_
    simp (maxSteps := 2000000) only [go_sem, Nat.reduceAdd, Nat.reduceMul, Nat.reduceBEq, Nat.reduceLeDiff, Nat.reduceLT, Nat.reduceEqDiff, ha0, hs1, h0i, Int.toNat_zero, Nat.zero_mul, Int.le_refl, implies_true, true_and, and_true]
    refine V_takes [15, 16] rfl (by kernel_rfl) ?_
    simp (maxSteps := 2000000) only [go_sem, Nat.reduceAdd, Nat.reduceMul, Nat.reduceBEq, Nat.reduceLeDiff, Nat.reduceLT, Nat.reduceEqDiff, ha0, hs1, h0i, Int.toNat_zero, Nat.zero_mul, Int.le_refl, implies_true, true_and, and_true]
    refine V_done (by kernel_rfl) ?_
    repeat' first | refine T_seq_region rfl ?_ | refine T_region rfl ?_ | refine T_ret ?_ | refine T_block ?_ | refine T_skip ?_ | refine T_exit ?_ | (simp (maxSteps := 2000000) only [go_sem, Nat.reduceAdd, Nat.reduceMul, Nat.reduceBEq, Nat.reduceLeDiff, Nat.reduceLT, Nat.reduceEqDiff]; try rfl) | refine T_seq ?_ | (refine And.intro ?_ ?_; focus (intros; simp_all only [Bool.or_eq_false_iff, Bool.or_eq_true, Bool.and_eq_true, and_self, true_and, and_true]; done))
    refine T_cond rfl (fun hq => ?_) (fun hq => ?_)
    · have hin : chIn c.segments.l.length a.l k = false := by
        rw [chIn, qget hlt, qget h0]
        simp only [Bool.or_eq_true, Bool.not_eq_true', Bool.and_eq_false_iff, decide_eq_false_iff_not, bne_iff_ne] at hq ⊢
        omega
      repeat' first | refine T_seq_region rfl ?_ | refine T_region rfl ?_ | refine T_ret ?_ | refine T_block ?_ | refine T_skip ?_ | refine T_exit ?_ | (simp (maxSteps := 2000000) only [go_sem, Nat.reduceAdd, Nat.reduceMul, Nat.reduceBEq, Nat.reduceLeDiff, Nat.reduceLT, Nat.reduceEqDiff]; try rfl) | refine T_seq ?_ | (refine And.intro ?_ ?_; focus (intros; simp_all only [Bool.or_eq_false_iff, Bool.or_eq_true, Bool.and_eq_true, and_self, true_and, and_true]; done))
      rw [allN_false hlt (chOk_bad hin)]
    · have hin : chIn c.segments.l.length a.l k = true := by
        rw [chIn, qget hlt, qget h0]
        simp only [Bool.or_eq_false_iff, Bool.not_eq_false', Bool.and_eq_true, decide_eq_true_eq, bne_eq_false_iff_eq] at hq ⊢
        omega
      repeat' first | refine T_seq_region rfl ?_ | refine T_region rfl ?_ | refine T_ret ?_ | refine T_block ?_ | refine T_skip ?_ | refine T_exit ?_ | (simp (maxSteps := 2000000) only [go_sem, Nat.reduceAdd, Nat.reduceMul, Nat.reduceBEq, Nat.reduceLeDiff, Nat.reduceLT, Nat.reduceEqDiff]; try rfl) | refine T_seq ?_ | (refine And.intro ?_ ?_; focus (intros; simp_all only [Bool.or_eq_false_iff, Bool.or_eq_true, Bool.and_eq_true, and_self, true_and, and_true]; done))
      refine T_cond rfl (fun hz => ?_) (fun hz => ?_)
      · have hk0 : k = 0 := by have := eq_of_beq hz; omega
        repeat' first | refine T_seq_region rfl ?_ | refine T_region rfl ?_ | refine T_ret ?_ | refine T_block ?_ | refine T_skip ?_ | refine T_exit ?_ | (simp (maxSteps := 2000000) only [go_sem, Nat.reduceAdd, Nat.reduceMul, Nat.reduceBEq, Nat.reduceLeDiff, Nat.reduceLT, Nat.reduceEqDiff]; try rfl) | refine T_seq ?_ | (refine And.intro ?_ ?_; focus (intros; simp_all only [Bool.or_eq_false_iff, Bool.or_eq_true, Bool.and_eq_true, and_self, true_and, and_true]; done))
        refine ⟨k + 1, ⟨hlt, allN_next hk.2 (chOk_good hin (by rw [chTo, decide_eq_true hk0]; rfl))⟩, by omega, svInt (wrapS hlt (by omega))⟩
      · have hk0 : ¬ k = 0 := by intro e; rw [e] at hz; cases hz
        have hk1 : k - 1 < a.l.length := by omega
        have hwk : IntKind.i64.wrap ((k : Int) - 1) = ((k - 1 : Nat) : Int) := by rw [wrap64 (by omega)]; omega
        obtain ⟨h3, h4⟩ := chIn_seg hlt hin
        obtain ⟨h5, h6⟩ := chIn_seg hk1 (chOk_in (hk.2 (k - 1) (by omega)))
        repeat' first | refine T_seq_region rfl ?_ | refine T_region rfl ?_ | refine T_ret ?_ | refine T_block ?_ | refine T_skip ?_ | refine T_exit ?_ | refine vfn_val (fun _ => spec_l08Ends_fn c _ _ hc h3 h4) ?_ | (simp (maxSteps := 2000000) only [go_sem, Nat.reduceAdd, Nat.reduceMul, Nat.reduceBEq, Nat.reduceLeDiff, Nat.reduceLT, Nat.reduceEqDiff, hwk]; try rfl) | refine T_seq ?_ | (refine And.intro ?_ ?_; focus (intros; simp_all only [Bool.or_eq_false_iff, Bool.or_eq_true, Bool.and_eq_true, and_self, true_and, and_true]; done))
        refine T_any rfl ?_
        refine V_takes [0, 1, 2, 3, 4, 5] rfl (by kernel_rfl) ?_
        simp (maxSteps := 2000000) only [go_sem, Nat.reduceAdd, Nat.reduceMul, Nat.reduceBEq, Nat.reduceLeDiff, Nat.reduceLT, Nat.reduceEqDiff, at_DPassage ha hk1, ha.some hk1, hk1, Int.toNat_natCast, hwk]
        refine V_branch [6] (by kernel_rfl) (by kernel_rfl) ?_
        simp (maxSteps := 2000000) only [go_sem, Nat.reduceAdd, Nat.reduceMul, Nat.reduceBEq, Nat.reduceLeDiff, Nat.reduceLT, Nat.reduceEqDiff, at_DPassage ha hk1, ha.some hk1, hk1, Int.toNat_natCast, hwk]
        refine vfn_val (fun _ => spec_l08Ends_fn c _ _ hc h5 h6) ?_
        simp (maxSteps := 2000000) only [go_sem, Nat.reduceAdd, Nat.reduceMul, Nat.reduceBEq, Nat.reduceLeDiff, Nat.reduceLT, Nat.reduceEqDiff, at_DPassage ha hk1, ha.some hk1, hk1, Int.toNat_natCast, hwk]
        refine V_takes [7, 8, 9, 10, 11] rfl (by kernel_rfl) ?_
        simp (maxSteps := 2000000) only [go_sem, Nat.reduceAdd, Nat.reduceMul, Nat.reduceBEq, Nat.reduceLeDiff, Nat.reduceLT, Nat.reduceEqDiff, at_DPassage ha hk1, ha.some hk1, hk1, Int.toNat_natCast, hwk]
        refine V_done (by kernel_rfl) ?_
        repeat' first | refine T_seq_region rfl ?_ | refine T_region rfl ?_ | refine T_ret ?_ | refine T_block ?_ | refine T_skip ?_ | refine T_exit ?_ | (simp (maxSteps := 2000000) only [go_sem, Nat.reduceAdd, Nat.reduceMul, Nat.reduceBEq, Nat.reduceLeDiff, Nat.reduceLT, Nat.reduceEqDiff]; try rfl) | refine T_seq ?_ | (refine And.intro ?_ ?_; focus (intros; simp_all only [Bool.or_eq_false_iff, Bool.or_eq_true, Bool.and_eq_true, and_self, true_and, and_true]; done))
        refine T_any_q rfl (by kernel_rfl) ?_
        simp (maxSteps := 2000000) only [go_sem, Nat.reduceAdd, Nat.reduceMul, Nat.reduceBEq, Nat.reduceLeDiff, Nat.reduceLT, Nat.reduceEqDiff, at_DPassage ha hk1, ha.some hk1, hk1, Int.toNat_natCast, hwk, fs_DPassage ha hk1]
        repeat' first | refine T_seq_region rfl ?_ | refine T_region rfl ?_ | refine T_ret ?_ | refine T_block ?_ | refine T_skip ?_ | refine T_exit ?_ | (simp (maxSteps := 2000000) only [go_sem, Nat.reduceAdd, Nat.reduceMul, Nat.reduceBEq, Nat.reduceLeDiff, Nat.reduceLT, Nat.reduceEqDiff]; try rfl) | refine T_seq ?_ | (refine And.intro ?_ ?_; focus (intros; simp_all only [Bool.or_eq_false_iff, Bool.or_eq_true, Bool.and_eq_true, and_self, true_and, and_true]; done))
        refine T_cond rfl (fun hx => ?_) (fun hx => ?_)
        · have hto : chTo (Con.con c) a.l k = false := by
            rw [chTo, qget hlt, qget hk1, decide_eq_false hk0, Bool.false_or]
            simp only [Bool.or_eq_true, bne_iff_ne, decide_eq_true_eq] at hx
            rw [Bool.and_eq_false_iff, decide_eq_false_iff_not, decide_eq_false_iff_not]
            omega
          repeat' first | refine T_seq_region rfl ?_ | refine T_region rfl ?_ | refine T_ret ?_ | refine T_block ?_ | refine T_skip ?_ | refine T_exit ?_ | (simp (maxSteps := 2000000) only [go_sem, Nat.reduceAdd, Nat.reduceMul, Nat.reduceBEq, Nat.reduceLeDiff, Nat.reduceLT, Nat.reduceEqDiff]; try rfl) | refine T_seq ?_ | (refine And.intro ?_ ?_; focus (intros; simp_all only [Bool.or_eq_false_iff, Bool.or_eq_true, Bool.and_eq_true, and_self, true_and, and_true]; done))
          rw [allN_false hlt (chOk_bad2 hto)]
        · have hto : chTo (Con.con c) a.l k = true := by
            rw [chTo, qget hlt, qget hk1, decide_eq_false hk0, Bool.false_or]
            simp only [Bool.or_eq_false_iff, bne_eq_false_iff_eq, decide_eq_false_iff_not] at hx
            rw [Bool.and_eq_true_iff, decide_eq_true_eq, decide_eq_true_eq]
            omega
          repeat' first | refine T_seq_region rfl ?_ | refine T_region rfl ?_ | refine T_ret ?_ | refine T_block ?_ | refine T_skip ?_ | refine T_exit ?_ | (simp (maxSteps := 2000000) only [go_sem, Nat.reduceAdd, Nat.reduceMul, Nat.reduceBEq, Nat.reduceLeDiff, Nat.reduceLT, Nat.reduceEqDiff]; try rfl) | refine T_seq ?_ | (refine And.intro ?_ ?_; focus (intros; simp_all only [Bool.or_eq_false_iff, Bool.or_eq_true, Bool.and_eq_true, and_self, true_and, and_true]; done))
          refine ⟨k + 1, ⟨hlt, allN_next hk.2 (chOk_good hin hto)⟩, by omega, svInt (wrapS hlt (by omega))⟩
  · have hge := ge_of_dec hd
    repeat' first | refine T_seq_region rfl ?_ | refine T_region rfl ?_ | refine T_ret ?_ | refine T_block ?_ | refine T_skip ?_ | refine T_exit ?_ | (simp (maxSteps := 2000000) only [go_sem, Nat.reduceAdd, Nat.reduceMul, Nat.reduceBEq, Nat.reduceLeDiff, Nat.reduceLT, Nat.reduceEqDiff]; try rfl) | refine T_seq ?_ | (refine And.intro ?_ ?_; focus (intros; simp_all only [Bool.or_eq_false_iff, Bool.or_eq_true, Bool.and_eq_true, and_self, true_and, and_true]; done))
    rw [allN_done hge hk.2]

theorem impl_IsChain_fn (c : DChart) (a : Sl DPassage) (h : Hp) (hc : Enc.ok h c) (ha : a.Ok h) : Ct Try.prog 87 [c.v, a.val] h fun v h' => v = .bool (F_IsChain (Con.con c) a.l) ∧ h' = h := by
  have hg := hc.2
  have hl := hg.max
  have hl2 := ha.max
  have hw : IntKind.i64.wrap ((c.segments.l.length : Int) - 1) = (c.segments.l.length : Int) - 1 := wrap64 (by omega)
  rw [F_IsChain]
  refine Ct_of_T (fun A W => by simp) Try.func87 rfl rfl (by simp) fun W0 => ?_
  repeat' first | refine T_seq_region rfl ?_ | refine T_region rfl ?_ | refine T_ret ?_ | refine T_block ?_ | refine T_skip ?_ | refine T_exit ?_ | refine vfn_val (fun _ => impl_ChartOk_fn c _ hc) ?_ | (simp (maxSteps := 2000000) only [go_sem, Nat.reduceAdd, Nat.reduceMul, Nat.reduceBEq, Nat.reduceLeDiff, Nat.reduceLT, Nat.reduceEqDiff]; try rfl) | refine T_seq ?_ | (refine And.intro ?_ ?_; focus (intros; simp_all only [Bool.or_eq_false_iff, Bool.or_eq_true, Bool.and_eq_true, and_self, true_and, and_true]; done))
  refine T_cond rfl (fun hC => ?_) (fun hC => ?_)
  · rw [Bool.not_eq_true'] at hC
    rw [hC]
    repeat' first | refine T_seq_region rfl ?_ | refine T_region rfl ?_ | refine T_ret ?_ | refine T_block ?_ | refine T_skip ?_ | refine T_exit ?_ | (simp (maxSteps := 2000000) only [go_sem, Nat.reduceAdd, Nat.reduceMul, Nat.reduceBEq, Nat.reduceLeDiff, Nat.reduceLT, Nat.reduceEqDiff]; try rfl) | refine T_seq ?_ | (refine And.intro ?_ ?_; focus (intros; simp_all only [Bool.or_eq_false_iff, Bool.or_eq_true, Bool.and_eq_true, and_self, true_and, and_true]; done))
  rw [Bool.not_eq_false'] at hC
  rw [hC, Bool.true_and]
  repeat' first | refine T_seq_region rfl ?_ | refine T_region rfl ?_ | refine T_ret ?_ | refine T_block ?_ | refine T_skip ?_ | refine T_exit ?_ | (simp (maxSteps := 2000000) only [go_sem, Nat.reduceAdd, Nat.reduceMul, Nat.reduceBEq, Nat.reduceLeDiff, Nat.reduceLT, Nat.reduceEqDiff]; try rfl) | refine T_seq ?_ | (refine And.intro ?_ ?_; focus (intros; simp_all only [Bool.or_eq_false_iff, Bool.or_eq_true, Bool.and_eq_true, and_self, true_and, and_true]; done))
  refine T_loop (ι := Nat) (fun k => ⟨[(1, true, .c (.v a.val)), (2, true, .c (.p 0 0)), (14, true, .c (.v a.val)), (15, true, .c (.v (.int .i64 a.l.length))), (16, true, .c (.v (.int .i64 k)))], [(0, .box 62 [.v c.points.val, .v c.segments.val])], h, 1⟩) (fun k => k ≤ a.l.length ∧ ∀ i, i < k → chOk (Con.con c) a.l i = true) (fun k => a.l.length - k) 0 ⟨Nat.zero_le _, allN_zero⟩ ?_ ?_
  · simp (maxSteps := 2000000) only [go_sem, Nat.reduceAdd, Nat.reduceMul, Nat.reduceBEq, Nat.reduceLeDiff, Nat.reduceLT, Nat.reduceEqDiff]
    first | exact rfl | exact ⟨rfl, rfl⟩ | exact ⟨rfl, rfl, rfl⟩ | exact ⟨rfl, rfl, rfl, rfl⟩ | exact ⟨rfl, rfl, rfl, rfl, rfl⟩
  intro k hk
  repeat' first | refine T_seq_region rfl ?_ | refine T_region rfl ?_ | refine T_ret ?_ | refine T_block ?_ | refine T_skip ?_ | refine T_exit ?_ | (simp (maxSteps := 2000000) only [go_sem, Nat.reduceAdd, Nat.reduceMul, Nat.reduceBEq, Nat.reduceLeDiff, Nat.reduceLT, Nat.reduceEqDiff]; try rfl) | refine T_seq ?_ | (refine And.intro ?_ ?_; focus (intros; simp_all only [Bool.or_eq_false_iff, Bool.or_eq_true, Bool.and_eq_true, and_self, true_and, and_true]; done))
  refine T_cond rfl (fun hd => ?_) (fun hd => ?_)
  · have hlt := lt_of_dec hd
    have h0 : 0 < a.l.length := by omega
    have h0i : (0 : Int) < a.l.length := by omega
    have ha0 := ha.some h0
    have hs1 := (fs_DPassage ha h0).1
    simp only [go_sem, Nat.zero_mul] at hs1
    repeat' first | refine T_seq_region rfl ?_ | refine T_region rfl ?_ | refine T_ret ?_ | refine T_block ?_ | refine T_skip ?_ | refine T_exit ?_ | (simp (maxSteps := 2000000) only [go_sem, Nat.reduceAdd, Nat.reduceMul, Nat.reduceBEq, Nat.reduceLeDiff, Nat.reduceLT, Nat.reduceEqDiff, at_DPassage ha hlt, ha.some hlt, hlt, Int.toNat_natCast]; try rfl) | refine T_seq ?_ | (refine And.intro ?_ ?_; focus (intros; simp_all only [Bool.or_eq_false_iff, Bool.or_eq_true, Bool.and_eq_true, and_self, true_and, and_true]; done))
    refine T_any rfl ?_
    refine V_takes [0, 1, 2, 3, 4, 5, 6, 7, 8, 9, 10, 11, 12] rfl (by kernel_rfl) ?_
    simp (maxSteps := 2000000) only [go_sem, Nat.reduceAdd, Nat.reduceMul, Nat.reduceBEq, Nat.reduceLeDiff, Nat.reduceLT, Nat.reduceEqDiff, ha0, hs1, h0i, Int.toNat_zero, Nat.zero_mul, Int.le_refl, implies_true, true_and, and_true]
    refine V_branch [13] (by kernel_rfl) (by kernel_rfl) ?_
    simp (maxSteps := 2000000) only [go_sem, Nat.reduceAdd, Nat.reduceMul, Nat.reduceBEq, Nat.reduceLeDiff, Nat.reduceLT, Nat.reduceEqDiff, ha0, hs1, h0i, Int.toNat_zero, Nat.zero_mul, Int.le_refl, implies_true, true_and, and_true, hw]
    refine vfn_val (fun _ => isIndex_fn _ _ _) ?_
    simp (maxSteps := 2000000) only [go_sem, Nat.reduceAdd, Nat.reduceMul, Nat.reduceBEq, Nat.reduceLeDiff, Nat.reduceLT, Nat.reduceEqDiff, ha0, hs1, h0i, Int.toNat_zero, Nat.zero_mul, Int.le_refl, implies_true, true_and, and_true]
    refine V_takes [14, 15] rfl (by kernel_rfl) ?_
    simp (maxSteps := 2000000) only [go_sem, Nat.reduceAdd, Nat.reduceMul, Nat.reduceBEq, Nat.reduceLeDiff, Nat.reduceLT, Nat.reduceEqDiff, ha0, hs1, h0i, Int.toNat_zero, Nat.zero_mul, Int.le_refl, implies_true, true_and, and_true]
    refine V_done (by kernel_rfl) ?_
    repeat' first | refine T_seq_region rfl ?_ | refine T_region rfl ?_ | refine T_ret ?_ | refine T_block ?_ | refine T_skip ?_ | refine T_exit ?_ | (simp (maxSteps := 2000000) only [go_sem, Nat.reduceAdd, Nat.reduceMul, Nat.reduceBEq, Nat.reduceLeDiff, Nat.reduceLT, Nat.reduceEqDiff]; try rfl) | refine T_seq ?_ | (refine And.intro ?_ ?_; focus (intros; simp_all only [Bool.or_eq_false_iff, Bool.or_eq_true, Bool.and_eq_true, and_self, true_and, and_true]; done))
    refine T_cond rfl (fun hq => ?_) (fun hq => ?_)
    · have hin : chIn c.segments.l.length a.l k = false := by
        rw [chIn, qget hlt, qget h0]
        simp only [Bool.or_eq_true, Bool.not_eq_true', Bool.and_eq_false_iff, decide_eq_false_iff_not, bne_iff_ne] at hq ⊢
        omega
      repeat' first | refine T_seq_region rfl ?_ | refine T_region rfl ?_ | refine T_ret ?_ | refine T_block ?_ | refine T_skip ?_ | refine T_exit ?_ | (simp (maxSteps := 2000000) only [go_sem, Nat.reduceAdd, Nat.reduceMul, Nat.reduceBEq, Nat.reduceLeDiff, Nat.reduceLT, Nat.reduceEqDiff]; try rfl) | refine T_seq ?_ | (refine And.intro ?_ ?_; focus (intros; simp_all only [Bool.or_eq_false_iff, Bool.or_eq_true, Bool.and_eq_true, and_self, true_and, and_true]; done))
      rw [allN_false hlt (chOk_bad hin)]
    · have hin : chIn c.segments.l.length a.l k = true := by
        rw [chIn, qget hlt, qget h0]
        simp only [Bool.or_eq_false_iff, Bool.not_eq_false', Bool.and_eq_true, decide_eq_true_eq, bne_eq_false_iff_eq] at hq ⊢
        omega
      repeat' first | refine T_seq_region rfl ?_ | refine T_region rfl ?_ | refine T_ret ?_ | refine T_block ?_ | refine T_skip ?_ | refine T_exit ?_ | (simp (maxSteps := 2000000) only [go_sem, Nat.reduceAdd, Nat.reduceMul, Nat.reduceBEq, Nat.reduceLeDiff, Nat.reduceLT, Nat.reduceEqDiff]; try rfl) | refine T_seq ?_ | (refine And.intro ?_ ?_; focus (intros; simp_all only [Bool.or_eq_false_iff, Bool.or_eq_true, Bool.and_eq_true, and_self, true_and, and_true]; done))
      refine T_cond rfl (fun hz => ?_) (fun hz => ?_)
      · have hk0 : k = 0 := by have := eq_of_beq hz; omega
        repeat' first | refine T_seq_region rfl ?_ | refine T_region rfl ?_ | refine T_ret ?_ | refine T_block ?_ | refine T_skip ?_ | refine T_exit ?_ | (simp (maxSteps := 2000000) only [go_sem, Nat.reduceAdd, Nat.reduceMul, Nat.reduceBEq, Nat.reduceLeDiff, Nat.reduceLT, Nat.reduceEqDiff]; try rfl) | refine T_seq ?_ | (refine And.intro ?_ ?_; focus (intros; simp_all only [Bool.or_eq_false_iff, Bool.or_eq_true, Bool.and_eq_true, and_self, true_and, and_true]; done))
        refine ⟨k + 1, ⟨hlt, allN_next hk.2 (chOk_good hin (by rw [chTo, decide_eq_true hk0]; rfl))⟩, by omega, svInt (wrapS hlt (by omega))⟩
      · have hk0 : ¬ k = 0 := by intro e; rw [e] at hz; cases hz
        have hk1 : k - 1 < a.l.length := by omega
        have hwk : IntKind.i64.wrap ((k : Int) - 1) = ((k - 1 : Nat) : Int) := by rw [wrap64 (by omega)]; omega
        obtain ⟨h3, h4⟩ := chIn_seg hlt hin
        obtain ⟨h5, h6⟩ := chIn_seg hk1 (chOk_in (hk.2 (k - 1) (by omega)))
        repeat' first | refine T_seq_region rfl ?_ | refine T_region rfl ?_ | refine T_ret ?_ | refine T_block ?_ | refine T_skip ?_ | refine T_exit ?_ | (simp (maxSteps := 2000000) only [go_sem, Nat.reduceAdd, Nat.reduceMul, Nat.reduceBEq, Nat.reduceLeDiff, Nat.reduceLT, Nat.reduceEqDiff]; try rfl) | refine T_seq ?_ | (refine And.intro ?_ ?_; focus (intros; simp_all only [Bool.or_eq_false_iff, Bool.or_eq_true, Bool.and_eq_true, and_self, true_and, and_true]; done))
        refine T_any rfl ?_
        refine V_takes [0, 1, 2, 3, 4, 5] rfl (by kernel_rfl) ?_
        simp (maxSteps := 2000000) only [go_sem, Nat.reduceAdd, Nat.reduceMul, Nat.reduceBEq, Nat.reduceLeDiff, Nat.reduceLT, Nat.reduceEqDiff, at_DPassage ha hk1, ha.some hk1, hk1, Int.toNat_natCast, hwk]
        refine V_branch [6] (by kernel_rfl) (by kernel_rfl) ?_
        simp (maxSteps := 2000000) only [go_sem, Nat.reduceAdd, Nat.reduceMul, Nat.reduceBEq, Nat.reduceLeDiff, Nat.reduceLT, Nat.reduceEqDiff, at_DPassage ha hk1, ha.some hk1, hk1, Int.toNat_natCast, hwk]
        refine vfn_val (fun _ => impl_ends_fn c _ _ hc h5 h6) ?_
        simp (maxSteps := 2000000) only [go_sem, Nat.reduceAdd, Nat.reduceMul, Nat.reduceBEq, Nat.reduceLeDiff, Nat.reduceLT, Nat.reduceEqDiff, at_DPassage ha hk1, ha.some hk1, hk1, Int.toNat_natCast, hwk]
        refine V_takes [7, 8, 9, 10, 11] rfl (by kernel_rfl) ?_
        simp (maxSteps := 2000000) only [go_sem, Nat.reduceAdd, Nat.reduceMul, Nat.reduceBEq, Nat.reduceLeDiff, Nat.reduceLT, Nat.reduceEqDiff, at_DPassage ha hk1, ha.some hk1, hk1, Int.toNat_natCast, hwk]
        refine V_done (by kernel_rfl) ?_
        repeat' first | refine T_seq_region rfl ?_ | refine T_region rfl ?_ | refine T_ret ?_ | refine T_block ?_ | refine T_skip ?_ | refine T_exit ?_ | (simp (maxSteps := 2000000) only [go_sem, Nat.reduceAdd, Nat.reduceMul, Nat.reduceBEq, Nat.reduceLeDiff, Nat.reduceLT, Nat.reduceEqDiff]; try rfl) | refine T_seq ?_ | (refine And.intro ?_ ?_; focus (intros; simp_all only [Bool.or_eq_false_iff, Bool.or_eq_true, Bool.and_eq_true, and_self, true_and, and_true]; done))
        repeat' first | refine T_seq_region rfl ?_ | refine T_region rfl ?_ | refine T_ret ?_ | refine T_block ?_ | refine T_skip ?_ | refine T_exit ?_ | refine vfn_val (fun _ => impl_ends_fn c _ _ hc h3 h4) ?_ | (simp (maxSteps := 2000000) only [go_sem, Nat.reduceAdd, Nat.reduceMul, Nat.reduceBEq, Nat.reduceLeDiff, Nat.reduceLT, Nat.reduceEqDiff, hwk]; try rfl) | refine T_seq ?_ | (refine And.intro ?_ ?_; focus (intros; simp_all only [Bool.or_eq_false_iff, Bool.or_eq_true, Bool.and_eq_true, and_self, true_and, and_true]; done))
        refine T_any_q rfl (by kernel_rfl) ?_
        simp (maxSteps := 2000000) only [go_sem, Nat.reduceAdd, Nat.reduceMul, Nat.reduceBEq, Nat.reduceLeDiff, Nat.reduceLT, Nat.reduceEqDiff, at_DPassage ha hk1, ha.some hk1, hk1, Int.toNat_natCast, hwk, fs_DPassage ha hk1]
        repeat' first | refine T_seq_region rfl ?_ | refine T_region rfl ?_ | refine T_ret ?_ | refine T_block ?_ | refine T_skip ?_ | refine T_exit ?_ | (simp (maxSteps := 2000000) only [go_sem, Nat.reduceAdd, Nat.reduceMul, Nat.reduceBEq, Nat.reduceLeDiff, Nat.reduceLT, Nat.reduceEqDiff]; try rfl) | refine T_seq ?_ | (refine And.intro ?_ ?_; focus (intros; simp_all only [Bool.or_eq_false_iff, Bool.or_eq_true, Bool.and_eq_true, and_self, true_and, and_true]; done))
        refine T_cond rfl (fun hx => ?_) (fun hx => ?_)
        · have hto : chTo (Con.con c) a.l k = false := by
            rw [chTo, qget hlt, qget hk1, decide_eq_false hk0, Bool.false_or]
            simp only [Bool.or_eq_true, bne_iff_ne, decide_eq_true_eq] at hx
            rw [Bool.and_eq_false_iff, decide_eq_false_iff_not, decide_eq_false_iff_not]
            omega
          repeat' first | refine T_seq_region rfl ?_ | refine T_region rfl ?_ | refine T_ret ?_ | refine T_block ?_ | refine T_skip ?_ | refine T_exit ?_ | (simp (maxSteps := 2000000) only [go_sem, Nat.reduceAdd, Nat.reduceMul, Nat.reduceBEq, Nat.reduceLeDiff, Nat.reduceLT, Nat.reduceEqDiff]; try rfl) | refine T_seq ?_ | (refine And.intro ?_ ?_; focus (intros; simp_all only [Bool.or_eq_false_iff, Bool.or_eq_true, Bool.and_eq_true, and_self, true_and, and_true]; done))
          rw [allN_false hlt (chOk_bad2 hto)]
        · have hto : chTo (Con.con c) a.l k = true := by
            rw [chTo, qget hlt, qget hk1, decide_eq_false hk0, Bool.false_or]
            simp only [Bool.or_eq_false_iff, bne_eq_false_iff_eq, decide_eq_false_iff_not] at hx
            rw [Bool.and_eq_true_iff, decide_eq_true_eq, decide_eq_true_eq]
            omega
          repeat' first | refine T_seq_region rfl ?_ | refine T_region rfl ?_ | refine T_ret ?_ | refine T_block ?_ | refine T_skip ?_ | refine T_exit ?_ | (simp (maxSteps := 2000000) only [go_sem, Nat.reduceAdd, Nat.reduceMul, Nat.reduceBEq, Nat.reduceLeDiff, Nat.reduceLT, Nat.reduceEqDiff]; try rfl) | refine T_seq ?_ | (refine And.intro ?_ ?_; focus (intros; simp_all only [Bool.or_eq_false_iff, Bool.or_eq_true, Bool.and_eq_true, and_self, true_and, and_true]; done))
          refine ⟨k + 1, ⟨hlt, allN_next hk.2 (chOk_good hin hto)⟩, by omega, svInt (wrapS hlt (by omega))⟩
  · have hge := ge_of_dec hd
    repeat' first | refine T_seq_region rfl ?_ | refine T_region rfl ?_ | refine T_ret ?_ | refine T_block ?_ | refine T_skip ?_ | refine T_exit ?_ | (simp (maxSteps := 2000000) only [go_sem, Nat.reduceAdd, Nat.reduceMul, Nat.reduceBEq, Nat.reduceLeDiff, Nat.reduceLT, Nat.reduceEqDiff]; try rfl) | refine T_seq ?_ | (refine And.intro ?_ ?_; focus (intros; simp_all only [Bool.or_eq_false_iff, Bool.or_eq_true, Bool.and_eq_true, and_self, true_and, and_true]; done))
    rw [allN_done hge hk.2]
end Go.Proofs.Ytfbdafdbinbeaaa
