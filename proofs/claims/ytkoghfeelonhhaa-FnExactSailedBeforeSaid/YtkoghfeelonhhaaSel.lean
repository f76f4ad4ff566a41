/- What functions of the given program compute, each as a contract over what its arguments read as. No condition beside those that each theorem states. -/
import Derived.Test.YtkoghfeelonhhaaKept
set_option linter.unusedVariables false
set_option linter.unusedSimpArgs false
namespace Go.Proofs.Ytkoghfeelonhhaa
open Go Go.SL
set_option maxHeartbeats 1000000
def F_ChangesOf (a b : List POption) : Int := ((max a.length b.length : Nat) : Int) - (F_KeptCalls a b).length
theorem F_ChangesOf_def (a b : Sl DOption) : F_ChangesOf (Con.con a) (Con.con b) = ((max a.l.length b.l.length : Nat) : Int) - (keptGo (Con.con a) (Con.con b) (min a.l.length b.l.length)).length := by
  unfold F_ChangesOf F_KeptCalls
  rw [con_len', con_len']
set_option maxRecDepth 100000 in
theorem impl_ChangesOf_fn (a b : Sl DOption) (h : Hp) (ha : a.Ok h) (hb : b.Ok h) (hz : Sz.sz (Con.con a) ≤ 1048576) : Ct Try.prog 52 [a.val, b.val] h fun v h' => v = .int .i64 (F_ChangesOf (Con.con a) (Con.con b)) ∧ h' = h := by
  have hl := ha.max
  have hl2 := hb.max
  have hF : F_KeptCalls (Con.con a) (Con.con b) = keptGo (Con.con a) (Con.con b) (min a.l.length b.l.length) := by rw [F_KeptCalls, con_len', con_len']
  refine Ct.forget ?_
  refine Ct_of_T (fun A W => by simp) Try.func52 rfl rfl (by simp) fun W0 => ?_
  repeat' first | refine T_seq_region rfl ?_ | refine T_region rfl ?_ | refine T_ret ?_ | refine T_block ?_ | refine T_skip ?_ | refine T_exit ?_ | (simp (maxSteps := 2000000) only [go_sem, Nat.reduceAdd, Nat.reduceMul, Nat.reduceBEq, Nat.reduceLeDiff, Nat.reduceLT, Nat.reduceEqDiff]; try rfl) | refine T_seq ?_
  refine vfn_at (impl_KeptCalls_fn _ _ _ ha hb hz) rfl ?_
  rintro v h1 le1 ⟨s, rfl, e1, ok1, m1⟩
  repeat' first | refine T_seq_region rfl ?_ | refine T_region rfl ?_ | refine T_ret ?_ | refine T_block ?_ | refine T_skip ?_ | refine T_exit ?_ | (simp (maxSteps := 2000000) only [go_sem, Nat.reduceAdd, Nat.reduceMul, Nat.reduceBEq, Nat.reduceLeDiff, Nat.reduceLT, Nat.reduceEqDiff]; try rfl) | refine T_seq ?_
  rw [con_ints, hF] at e1
  rw [e1, F_ChangesOf_def]
  have := keptGo_len (Con.con a) (Con.con b) (min a.l.length b.l.length)
  congr 1
  rw [wrap64 (by omega)]
  omega
theorem spec_ChangesOf_fn (a b : Sl DOption) (h : Hp) (ha : a.Ok h) (hb : b.Ok h) : Ct Try.prog 51 [a.val, b.val] h fun v h' => v = .int .i64 (F_ChangesOf (Con.con a) (Con.con b)) ∧ h' = h := by
  have hl := ha.max
  have hl2 := hb.max
  rw [F_ChangesOf_def]
  refine Ct_of_T (fun A W => by simp) Try.func51 rfl rfl (by simp) fun W0 => ?_
  repeat' first | refine T_seq_region rfl ?_ | refine T_region rfl ?_ | refine T_ret ?_ | refine T_block ?_ | refine T_skip ?_ | refine T_exit ?_ | (simp (maxSteps := 2000000) only [go_sem, Nat.reduceAdd, Nat.reduceMul, Nat.reduceBEq, Nat.reduceLeDiff, Nat.reduceLT, Nat.reduceEqDiff]; try rfl) | refine T_seq ?_
  refine T_loop (ι := Nat) (fun k => ⟨[(0, true, .c (.v a.val)), (1, true, .c (.v b.val)), (5, true, .c (.v (.int .i64 ((max a.l.length b.l.length : Nat) - (min a.l.length b.l.length : Nat) + ((k : Int) - (keptGo (Con.con a) (Con.con b) k).length))))), (6, true, .c (.v (.int .i64 k)))], [], h, 0⟩) (fun k => k ≤ a.l.length ∧ k ≤ b.l.length) (fun k => a.l.length - k) 0 ⟨Nat.zero_le _, Nat.zero_le _⟩ ?_ ?_
  · simp (maxSteps := 2000000) only [go_sem, Nat.reduceAdd, Nat.reduceMul, Nat.reduceBEq, Nat.reduceLeDiff, Nat.reduceLT, Nat.reduceEqDiff]
    refine ⟨svInt ?_, rfl⟩
    rw [wrap64 (by omega)]
    simp only [keptGo, List.length_nil]
    omega
  intro k hk
  have hlk := keptGo_len (Con.con a) (Con.con b) k
  repeat' first | refine T_seq_region rfl ?_ | refine T_region rfl ?_ | refine T_ret ?_ | refine T_block ?_ | refine T_skip ?_ | refine T_exit ?_ | (simp (maxSteps := 2000000) only [go_sem, Nat.reduceAdd, Nat.reduceMul, Nat.reduceBEq, Nat.reduceLeDiff, Nat.reduceLT, Nat.reduceEqDiff]; try rfl) | refine T_seq ?_
  refine T_cond rfl (fun hd => ?_) (fun hd => ?_)
  · have hd' := of_decide_eq_true hd
    have hlt : k < a.l.length := by omega
    have hlt' : k < b.l.length := by omega
    repeat' first | refine T_seq_region rfl ?_ | refine T_region rfl ?_ | refine T_ret ?_ | refine T_block ?_ | refine T_skip ?_ | refine T_exit ?_ | (simp (maxSteps := 2000000) only [go_sem, Nat.reduceAdd, Nat.reduceMul, Nat.reduceBEq, Nat.reduceLeDiff, Nat.reduceLT, Nat.reduceEqDiff]; try rfl) | refine T_seq ?_
    refine T_any rfl ?_
    refine V_takes [0, 1, 2, 3, 4, 5, 6, 7] rfl (by kernel_rfl) ?_
    simp (maxSteps := 2000000) only [go_sem, Nat.reduceAdd, Nat.reduceMul, Nat.reduceBEq, Nat.reduceLeDiff, Nat.reduceLT, Nat.reduceEqDiff, at_DOption ha hlt, ha.some hlt, hlt, at_DOption hb hlt', hb.some hlt', hlt', Int.toNat_natCast]
    refine V_branch [8] (by kernel_rfl) (by kernel_rfl) ?_
    simp (maxSteps := 2000000) only [go_sem, Nat.reduceAdd, Nat.reduceMul, Nat.reduceBEq, Nat.reduceLeDiff, Nat.reduceLT, Nat.reduceEqDiff, at_DOption ha hlt, ha.some hlt, hlt, at_DOption hb hlt', hb.some hlt', hlt', Int.toNat_natCast]
    refine vfn_val (fun _ => spec_SameOptions_fn _ _ _ (ha.el hlt) (hb.el hlt')) ?_
    simp (maxSteps := 2000000) only [go_sem, Nat.reduceAdd, Nat.reduceMul, Nat.reduceBEq, Nat.reduceLeDiff, Nat.reduceLT, Nat.reduceEqDiff, at_DOption ha hlt, ha.some hlt, hlt, at_DOption hb hlt', hb.some hlt', hlt', Int.toNat_natCast]
    refine V_takes [9] rfl (by kernel_rfl) ?_
    simp (maxSteps := 2000000) only [go_sem, Nat.reduceAdd, Nat.reduceMul, Nat.reduceBEq, Nat.reduceLeDiff, Nat.reduceLT, Nat.reduceEqDiff]
    refine V_done (by kernel_rfl) ?_
    repeat' first | refine T_seq_region rfl ?_ | refine T_region rfl ?_ | refine T_ret ?_ | refine T_block ?_ | refine T_skip ?_ | refine T_exit ?_ | (simp (maxSteps := 2000000) only [go_sem, Nat.reduceAdd, Nat.reduceMul, Nat.reduceBEq, Nat.reduceLeDiff, Nat.reduceLT, Nat.reduceEqDiff]; try rfl) | refine T_seq ?_
    refine T_cond rfl (fun hq => ?_) (fun hq => ?_)
    · have hs : keptGo (Con.con a) (Con.con b) (k + 1) = keptGo (Con.con a) (Con.con b) k := by
        show (if _ then _ else _) = _
        rw [if_neg]
        rw [con_at hlt, con_at hlt']
        exact fun e => of_decide_eq_false (by simpa only [F_SameOptions, Bool.not_eq_true'] using hq) (Option.some.inj e)
      repeat' first | refine T_seq_region rfl ?_ | refine T_region rfl ?_ | refine T_ret ?_ | refine T_block ?_ | refine T_skip ?_ | refine T_exit ?_ | (simp (maxSteps := 2000000) only [go_sem, Nat.reduceAdd, Nat.reduceMul, Nat.reduceBEq, Nat.reduceLeDiff, Nat.reduceLT, Nat.reduceEqDiff]; try rfl) | refine T_seq ?_
      refine ⟨k + 1, ⟨hlt, hlt'⟩, by omega, svInt ?_, svInt (wrapS hlt (by omega))⟩
      rw [hs, wrap64 (by omega)]
      omega
    · have hs : keptGo (Con.con a) (Con.con b) (k + 1) = keptGo (Con.con a) (Con.con b) k ++ [(k : Int)] := by
        show (if _ then _ else _) = _
        rw [if_pos]
        rw [con_at hlt, con_at hlt']
        exact congrArg some (of_decide_eq_true (by simpa only [F_SameOptions, Bool.not_eq_false'] using hq))
      repeat' first | refine T_seq_region rfl ?_ | refine T_region rfl ?_ | refine T_ret ?_ | refine T_block ?_ | refine T_skip ?_ | refine T_exit ?_ | (simp (maxSteps := 2000000) only [go_sem, Nat.reduceAdd, Nat.reduceMul, Nat.reduceBEq, Nat.reduceLeDiff, Nat.reduceLT, Nat.reduceEqDiff]; try rfl) | refine T_seq ?_
      refine ⟨k + 1, ⟨hlt, hlt'⟩, by omega, svInt ?_, svInt (wrapS hlt (by omega))⟩
      rw [hs, List.length_append, List.length_singleton]
      omega
  · have hge := of_decide_eq_false hd
    have hke : k = min a.l.length b.l.length := by omega
    repeat' first | refine T_seq_region rfl ?_ | refine T_region rfl ?_ | refine T_ret ?_ | refine T_block ?_ | refine T_skip ?_ | refine T_exit ?_ | (simp (maxSteps := 2000000) only [go_sem, Nat.reduceAdd, Nat.reduceMul, Nat.reduceBEq, Nat.reduceLeDiff, Nat.reduceLT, Nat.reduceEqDiff]; try rfl) | refine T_seq ?_
    rw [← hke]
    congr 1
    omega
def Sel (n : Nat) (l : List Int) : Prop := ∀ i, i < l.length → 0 ≤ l.getD i 0 ∧ l.getD i 0 < n ∧ (0 < i → l.getD (i - 1) 0 < l.getD i 0)
instance (n : Nat) (l : List Int) : Decidable (Sel n l) := inferInstanceAs (Decidable (∀ i, i < l.length → _))
theorem getD_lt {l : List Int} {i : Nat} (hi : i < l.length) : l.getD i 0 = l[i] := by simp [List.getD_eq_getElem?_getD, hi]
theorem spec_l18Ok_fn (n : Nat) (b : Sl Int) (h : Hp) (hn : n ≤ 9223372036854775807) (hb : b.Ok h) : Ct Try.prog 74 [.int .i64 n, b.val] h fun v h' => v = .bool (decide (Sel n b.l)) ∧ h' = h := by
  have hl := hb.max
  have hw0 : IntKind.i64.wrap ((n : Int) - 1) = (n : Int) - 1 := wrap64 (by omega)
  refine Ct_of_T (fun A W => by simp) Try.func74 rfl rfl (by simp) fun W0 => ?_
  repeat' first | refine T_seq_region rfl ?_ | refine T_region rfl ?_ | refine T_ret ?_ | refine T_block ?_ | refine T_skip ?_ | refine T_exit ?_ | (simp (maxSteps := 2000000) only [go_sem, Nat.reduceAdd, Nat.reduceMul, Nat.reduceBEq, Nat.reduceLeDiff, Nat.reduceLT, Nat.reduceEqDiff]; try rfl) | refine T_seq ?_
  refine T_loop (ι := Nat) (fun k => ⟨[(0, true, .c (.v (.int .i64 n))), (1, true, .c (.v b.val)), (7, true, .c (.v b.val)), (8, true, .c (.v (.int .i64 b.l.length))), (9, true, .c (.v (.int .i64 k)))], [], h, 0⟩) (fun k => k ≤ b.l.length ∧ ∀ i, i < k → 0 ≤ b.l.getD i 0 ∧ b.l.getD i 0 < n ∧ (0 < i → b.l.getD (i - 1) 0 < b.l.getD i 0)) (fun k => b.l.length - k) 0 ⟨Nat.zero_le _, fun i hi => absurd hi (Nat.not_lt_zero _)⟩ ?_ ?_
  · simp (maxSteps := 2000000) only [go_sem, Nat.reduceAdd, Nat.reduceMul, Nat.reduceBEq, Nat.reduceLeDiff, Nat.reduceLT, Nat.reduceEqDiff]
    exact rfl
  intro k hk
  repeat' first | refine T_seq_region rfl ?_ | refine T_region rfl ?_ | refine T_ret ?_ | refine T_block ?_ | refine T_skip ?_ | refine T_exit ?_ | (simp (maxSteps := 2000000) only [go_sem, Nat.reduceAdd, Nat.reduceMul, Nat.reduceBEq, Nat.reduceLeDiff, Nat.reduceLT, Nat.reduceEqDiff]; try rfl) | refine T_seq ?_
  refine T_cond rfl (fun hd => ?_) (fun hd => ?_)
  · have hlt := lt_of_dec hd
    have hgd := getD_lt hlt
    rcases Nat.eq_zero_or_pos k with h0 | h0
    · have hf : (0 < (k : Int)) = False := eq_false (by omega)
      repeat' first | refine T_seq_region rfl ?_ | refine T_region rfl ?_ | refine T_ret ?_ | refine T_block ?_ | refine T_skip ?_ | refine T_exit ?_ | refine vfn_val (fun _ => l01In_fn _ _ _ _) ?_ | (simp (maxSteps := 2000000) only [go_sem, Nat.reduceAdd, Nat.reduceMul, Nat.reduceBEq, Nat.reduceLeDiff, Nat.reduceLT, Nat.reduceEqDiff, at_Int hb hlt, hb.some hlt, hlt, hw0, hf, decide_false, Bool.and_false, Bool.false_and, Bool.or_false, Bool.false_eq_true, false_implies, implies_true, true_and, reduceCtorEq]; try rfl) | refine T_seq ?_
      refine T_cond rfl (fun hq => ?_) (fun hq => ?_)
      · repeat' first | refine T_seq_region rfl ?_ | refine T_region rfl ?_ | refine T_ret ?_ | refine T_block ?_ | refine T_skip ?_ | refine T_exit ?_ | (simp (maxSteps := 2000000) only [go_sem, Nat.reduceAdd, Nat.reduceMul, Nat.reduceBEq, Nat.reduceLeDiff, Nat.reduceLT, Nat.reduceEqDiff]; try rfl) | refine T_seq ?_
        refine boolF fun e => ?_
        have h1 := e k hlt
        rw [hgd] at h1
        rw [decide_eq_true h1.1, decide_eq_true (show b.l[k] ≤ (n : Int) - 1 by omega)] at hq
        cases hq
      · simp only [Bool.not_eq_false', Bool.and_eq_true, decide_eq_true_eq] at hq
        repeat' first | refine T_seq_region rfl ?_ | refine T_region rfl ?_ | refine T_ret ?_ | refine T_block ?_ | refine T_skip ?_ | refine T_exit ?_ | (simp (maxSteps := 2000000) only [go_sem, Nat.reduceAdd, Nat.reduceMul, Nat.reduceBEq, Nat.reduceLeDiff, Nat.reduceLT, Nat.reduceEqDiff]; try rfl) | refine T_seq ?_
        refine ⟨k + 1, ⟨hlt, fun i hi => ?_⟩, by omega, svInt (wrapS hlt (by omega))⟩
        rcases Nat.lt_succ_iff_lt_or_eq.1 hi with hi | rfl
        · exact hk.2 i hi
        · rw [hgd]; exact ⟨hq.1, by omega, fun hp => by omega⟩
    · have hp : k - 1 < b.l.length := by omega
      have hw : IntKind.i64.wrap ((k : Int) - 1) = ((k - 1 : Nat) : Int) := by rw [wrap64 (by omega)]; omega
      have hf : (0 < (k : Int)) = True := eq_true (by omega)
      repeat' first | refine T_seq_region rfl ?_ | refine T_region rfl ?_ | refine T_ret ?_ | refine T_block ?_ | refine T_skip ?_ | refine T_exit ?_ | refine vfn_val (fun _ => l01In_fn _ _ _ _) ?_ | (simp (maxSteps := 2000000) only [go_sem, Nat.reduceAdd, Nat.reduceMul, Nat.reduceBEq, Nat.reduceLeDiff, Nat.reduceLT, Nat.reduceEqDiff, at_Int hb hlt, hb.some hlt, hlt, hw0, hw, at_Int hb hp, hp, Int.toNat_natCast, hf, decide_true, and_true, imp_self, true_implies, Bool.and_true, Bool.true_and]; try rfl) | refine T_seq ?_
      refine T_cond rfl (fun hq => ?_) (fun hq => ?_)
      · repeat' first | refine T_seq_region rfl ?_ | refine T_region rfl ?_ | refine T_ret ?_ | refine T_block ?_ | refine T_skip ?_ | refine T_exit ?_ | (simp (maxSteps := 2000000) only [go_sem, Nat.reduceAdd, Nat.reduceMul, Nat.reduceBEq, Nat.reduceLeDiff, Nat.reduceLT, Nat.reduceEqDiff]; try rfl) | refine T_seq ?_
        refine boolF fun e => ?_
        have h1 := e k hlt
        rw [hgd, getD_lt hp] at h1
        have h2 := h1.2.2 h0
        rcases (Bool.or_eq_true _ _).mp hq with hq | hq
        · rw [decide_eq_true h1.1, decide_eq_true (show b.l[k] ≤ (n : Int) - 1 by omega)] at hq
          cases hq
        · have := of_decide_eq_true hq
          omega
      · obtain ⟨hq, hq2⟩ := Bool.or_eq_false_iff.1 hq
        simp only [Bool.not_eq_false', Bool.and_eq_true, decide_eq_true_eq] at hq
        have hq2 := of_decide_eq_false hq2
        repeat' first | refine T_seq_region rfl ?_ | refine T_region rfl ?_ | refine T_ret ?_ | refine T_block ?_ | refine T_skip ?_ | refine T_exit ?_ | (simp (maxSteps := 2000000) only [go_sem, Nat.reduceAdd, Nat.reduceMul, Nat.reduceBEq, Nat.reduceLeDiff, Nat.reduceLT, Nat.reduceEqDiff]; try rfl) | refine T_seq ?_
        refine ⟨k + 1, ⟨hlt, fun i hi => ?_⟩, by omega, svInt (wrapS hlt (by omega))⟩
        rcases Nat.lt_succ_iff_lt_or_eq.1 hi with hi | rfl
        · exact hk.2 i hi
        · rw [hgd, getD_lt hp]; exact ⟨hq.1, by omega, fun _ => by omega⟩
  · have hge := ge_of_dec hd
    repeat' first | refine T_seq_region rfl ?_ | refine T_region rfl ?_ | refine T_ret ?_ | refine T_block ?_ | refine T_skip ?_ | refine T_exit ?_ | (simp (maxSteps := 2000000) only [go_sem, Nat.reduceAdd, Nat.reduceMul, Nat.reduceBEq, Nat.reduceLeDiff, Nat.reduceLT, Nat.reduceEqDiff]; try rfl) | refine T_seq ?_
    exact boolT (fun i hi => hk.2 i (by omega))
theorem impl_isSelection_fn (a : Sl DCall) (b : Sl Int) (h : Hp) (ha : a.Ok h) (hb : b.Ok h) : Ct Try.prog 75 [a.val, b.val] h fun v h' => v = .bool (decide (Sel a.l.length b.l)) ∧ h' = h := by
  have hl := hb.max
  refine Ct_of_T (fun A W => by simp) Try.func75 rfl rfl (by simp) fun W0 => ?_
  repeat' first | refine T_seq_region rfl ?_ | refine T_region rfl ?_ | refine T_ret ?_ | refine T_block ?_ | refine T_skip ?_ | refine T_exit ?_ | (simp (maxSteps := 2000000) only [go_sem, Nat.reduceAdd, Nat.reduceMul, Nat.reduceBEq, Nat.reduceLeDiff, Nat.reduceLT, Nat.reduceEqDiff]; try rfl) | refine T_seq ?_
  refine T_loop (ι := Nat) (fun k => ⟨[(0, true, .c (.v a.val)), (1, true, .c (.v b.val)), (7, true, .c (.v b.val)), (8, true, .c (.v (.int .i64 b.l.length))), (9, true, .c (.v (.int .i64 k)))], [], h, 0⟩) (fun k => k ≤ b.l.length ∧ ∀ i, i < k → 0 ≤ b.l.getD i 0 ∧ b.l.getD i 0 < a.l.length ∧ (0 < i → b.l.getD (i - 1) 0 < b.l.getD i 0)) (fun k => b.l.length - k) 0 ⟨Nat.zero_le _, fun i hi => absurd hi (Nat.not_lt_zero _)⟩ ?_ ?_
  · simp (maxSteps := 2000000) only [go_sem, Nat.reduceAdd, Nat.reduceMul, Nat.reduceBEq, Nat.reduceLeDiff, Nat.reduceLT, Nat.reduceEqDiff]
    exact rfl
  intro k hk
  repeat' first | refine T_seq_region rfl ?_ | refine T_region rfl ?_ | refine T_ret ?_ | refine T_block ?_ | refine T_skip ?_ | refine T_exit ?_ | (simp (maxSteps := 2000000) only [go_sem, Nat.reduceAdd, Nat.reduceMul, Nat.reduceBEq, Nat.reduceLeDiff, Nat.reduceLT, Nat.reduceEqDiff]; try rfl) | refine T_seq ?_
  refine T_cond rfl (fun hd => ?_) (fun hd => ?_)
  · have hlt := lt_of_dec hd
    have hgd := getD_lt hlt
    rcases Nat.eq_zero_or_pos k with h0 | h0
    · have hf : (0 < (k : Int)) = False := eq_false (by omega)
      repeat' first | refine T_seq_region rfl ?_ | refine T_region rfl ?_ | refine T_ret ?_ | refine T_block ?_ | refine T_skip ?_ | refine T_exit ?_ | refine vfn_val (fun _ => isIndex_fn _ _ _) ?_ | (simp (maxSteps := 2000000) only [go_sem, Nat.reduceAdd, Nat.reduceMul, Nat.reduceBEq, Nat.reduceLeDiff, Nat.reduceLT, Nat.reduceEqDiff, at_Int hb hlt, hb.some hlt, hlt, hf, decide_false, Bool.and_false, Bool.false_and, Bool.or_false, Bool.false_eq_true, false_implies, implies_true, true_and, reduceCtorEq]; try rfl) | refine T_seq ?_
      refine T_cond rfl (fun hq => ?_) (fun hq => ?_)
      · repeat' first | refine T_seq_region rfl ?_ | refine T_region rfl ?_ | refine T_ret ?_ | refine T_block ?_ | refine T_skip ?_ | refine T_exit ?_ | (simp (maxSteps := 2000000) only [go_sem, Nat.reduceAdd, Nat.reduceMul, Nat.reduceBEq, Nat.reduceLeDiff, Nat.reduceLT, Nat.reduceEqDiff]; try rfl) | refine T_seq ?_
        refine boolF fun e => ?_
        have h1 := e k hlt
        rw [hgd] at h1
        rw [decide_eq_true h1.1, decide_eq_true h1.2.1] at hq
        cases hq
      · simp only [Bool.not_eq_false', Bool.and_eq_true, decide_eq_true_eq] at hq
        repeat' first | refine T_seq_region rfl ?_ | refine T_region rfl ?_ | refine T_ret ?_ | refine T_block ?_ | refine T_skip ?_ | refine T_exit ?_ | (simp (maxSteps := 2000000) only [go_sem, Nat.reduceAdd, Nat.reduceMul, Nat.reduceBEq, Nat.reduceLeDiff, Nat.reduceLT, Nat.reduceEqDiff]; try rfl) | refine T_seq ?_
        refine ⟨k + 1, ⟨hlt, fun i hi => ?_⟩, by omega, svInt (wrapS hlt (by omega))⟩
        rcases Nat.lt_succ_iff_lt_or_eq.1 hi with hi | rfl
        · exact hk.2 i hi
        · rw [hgd]; exact ⟨hq.1, by omega, fun hp => by omega⟩
    · have hp : k - 1 < b.l.length := by omega
      have hw : IntKind.i64.wrap ((k : Int) - 1) = ((k - 1 : Nat) : Int) := by rw [wrap64 (by omega)]; omega
      have hf : (0 < (k : Int)) = True := eq_true (by omega)
      repeat' first | refine T_seq_region rfl ?_ | refine T_region rfl ?_ | refine T_ret ?_ | refine T_block ?_ | refine T_skip ?_ | refine T_exit ?_ | refine vfn_val (fun _ => isIndex_fn _ _ _) ?_ | (simp (maxSteps := 2000000) only [go_sem, Nat.reduceAdd, Nat.reduceMul, Nat.reduceBEq, Nat.reduceLeDiff, Nat.reduceLT, Nat.reduceEqDiff, at_Int hb hlt, hb.some hlt, hlt, hw, at_Int hb hp, hp, Int.toNat_natCast, hf, decide_true, and_true, imp_self, true_implies, Bool.and_true, Bool.true_and]; try rfl) | refine T_seq ?_
      refine T_cond rfl (fun hq => ?_) (fun hq => ?_)
      · repeat' first | refine T_seq_region rfl ?_ | refine T_region rfl ?_ | refine T_ret ?_ | refine T_block ?_ | refine T_skip ?_ | refine T_exit ?_ | (simp (maxSteps := 2000000) only [go_sem, Nat.reduceAdd, Nat.reduceMul, Nat.reduceBEq, Nat.reduceLeDiff, Nat.reduceLT, Nat.reduceEqDiff]; try rfl) | refine T_seq ?_
        refine boolF fun e => ?_
        have h1 := e k hlt
        rw [hgd, getD_lt hp] at h1
        have h2 := h1.2.2 h0
        rcases (Bool.or_eq_true _ _).mp hq with hq | hq
        · rw [decide_eq_true h1.1, decide_eq_true h1.2.1] at hq
          cases hq
        · have := of_decide_eq_true hq
          omega
      · obtain ⟨hq, hq2⟩ := Bool.or_eq_false_iff.1 hq
        simp only [Bool.not_eq_false', Bool.and_eq_true, decide_eq_true_eq] at hq
        have hq2 := of_decide_eq_false hq2
        repeat' first | refine T_seq_region rfl ?_ | refine T_region rfl ?_ | refine T_ret ?_ | refine T_block ?_ | refine T_skip ?_ | refine T_exit ?_ | (simp (maxSteps := 2000000) only [go_sem, Nat.reduceAdd, Nat.reduceMul, Nat.reduceBEq, Nat.reduceLeDiff, Nat.reduceLT, Nat.reduceEqDiff]; try rfl) | refine T_seq ?_
        refine ⟨k + 1, ⟨hlt, fun i hi => ?_⟩, by omega, svInt (wrapS hlt (by omega))⟩
        rcases Nat.lt_succ_iff_lt_or_eq.1 hi with hi | rfl
        · exact hk.2 i hi
        · rw [hgd, getD_lt hp]; exact ⟨hq.1, by omega, fun _ => by omega⟩
  · have hge := ge_of_dec hd
    repeat' first | refine T_seq_region rfl ?_ | refine T_region rfl ?_ | refine T_ret ?_ | refine T_block ?_ | refine T_skip ?_ | refine T_exit ?_ | (simp (maxSteps := 2000000) only [go_sem, Nat.reduceAdd, Nat.reduceMul, Nat.reduceBEq, Nat.reduceLeDiff, Nat.reduceLT, Nat.reduceEqDiff]; try rfl) | refine T_seq ?_
    exact boolT (fun i hi => hk.2 i (by omega))

def F_SelectCalls (a : List DCall) (l : List Int) : List DCall := if Sel a.length l then l.map (fun k => a.getD k.toNat ⟨0, 0, 0, 0, 0⟩) else []
theorem spec_SelectCalls_fn (a : Sl DCall) (b : Sl Int) (h : Hp) (ha : a.Ok h) (hb : b.Ok h) (hz : Sz.sz (Con.con b) ≤ 1048576) : Ct Try.prog 46 [a.val, b.val] h fun v h' => ∃ s : Sl DCall, v = s.val ∧ Con.con s = F_SelectCalls (Con.con a) (Con.con b) ∧ s.Ok h' ∧ Mine h h' s := by
  have hl := hb.max
  have hl1 := ha.max
  have hz := sz_len hz
  rw [con_len'] at hz
  rw [con_ints, con_lCall, F_SelectCalls]
  refine Ct_of_T (fun A W => by simp) Try.func46 rfl rfl (by simp) fun W0 => ?_
  repeat' first | refine T_seq_region rfl ?_ | refine T_region rfl ?_ | refine T_ret ?_ | refine T_block ?_ | refine T_skip ?_ | refine T_exit ?_ | refine vfn_val (fun _ => spec_l18Ok_fn _ _ _ hl1 hb) ?_ | (simp (maxSteps := 2000000) only [go_sem, Nat.reduceAdd, Nat.reduceMul, Nat.reduceBEq, Nat.reduceLeDiff, Nat.reduceLT, Nat.reduceEqDiff]; try rfl) | refine T_seq ?_
  refine T_cond rfl (fun hc => ?_) (fun hc => ?_)
  · repeat' first | refine T_seq_region rfl ?_ | refine T_region rfl ?_ | refine T_ret ?_ | refine T_block ?_ | refine T_skip ?_ | refine T_exit ?_ | (simp (maxSteps := 2000000) only [go_sem, Nat.reduceAdd, Nat.reduceMul, Nat.reduceBEq, Nat.reduceLeDiff, Nat.reduceLT, Nat.reduceEqDiff]; try rfl) | refine T_seq ?_
    refine ⟨⟨none, 0, []⟩, rfl, ?_, nilOk, Mine.nil⟩
    rw [if_neg (of_decide_eq_false (by simpa only [Bool.not_eq_true'] using hc))]; rfl
  have hsel := of_decide_eq_true (by simpa only [Bool.not_eq_false'] using hc)
  rw [if_pos hsel]
  repeat' first | refine T_seq_region rfl ?_ | refine T_region rfl ?_ | refine T_ret ?_ | refine T_block ?_ | refine T_skip ?_ | refine T_exit ?_ | (simp (maxSteps := 2000000) only [go_sem, Nat.reduceAdd, Nat.reduceMul, Nat.reduceBEq, Nat.reduceLeDiff, Nat.reduceLT, Nat.reduceEqDiff]; try rfl) | refine T_seq ?_
  refine T_loopG (ι := Nat) (fun k => ⟨[(0, true, .c (.v a.val)), (5, true, .c (.s 0)), (14, true, .c (.v b.val)), (15, true, .c (.v (.int .i64 b.l.length))), (16, true, .c (.v (.int .i64 k)))], [(0, .row 78 5 k (((b.l.take k).map (fun k => a.l.getD k.toNat ⟨0, 0, 0, 0, 0⟩)).flatMap Enc.enc))], h, 1⟩) (fun k => k ≤ b.l.length) (fun k => b.l.length - k) 0 (Nat.zero_le _) [0] ?_ ?_
  · simp (maxSteps := 2000000) only [go_sem, Nat.reduceAdd, Nat.reduceMul, Nat.reduceBEq, Nat.reduceLeDiff, Nat.reduceLT, Nat.reduceEqDiff]
    first | exact rfl | exact ⟨rfl, rfl⟩ | exact ⟨rfl, rfl, rfl⟩ | exact ⟨rfl, rfl, rfl, rfl⟩ | exact ⟨rfl, rfl, rfl, rfl, rfl⟩
  intro k hk
  repeat' first | refine T_seq_region rfl ?_ | refine T_region rfl ?_ | refine T_ret ?_ | refine T_block ?_ | refine T_skip ?_ | refine T_exit ?_ | (simp (maxSteps := 2000000) only [go_sem, Nat.reduceAdd, Nat.reduceMul, Nat.reduceBEq, Nat.reduceLeDiff, Nat.reduceLT, Nat.reduceEqDiff]; try rfl) | refine T_seq ?_
  refine T_cond rfl (fun hd => ?_) (fun hd => ?_)
  · have hlt := lt_of_dec hd
    obtain ⟨s1, s2, _⟩ := hsel k hlt
    rw [getD_lt hlt] at s1 s2
    have hi : b.l[k].toNat < a.l.length := by omega
    have hln : (((b.l.take k).map (fun k => a.l.getD k.toNat ⟨0, 0, 0, 0, 0⟩)).flatMap Enc.enc).length = k * 5 := by rw [flat_length Enc.len, List.length_map, List.length_take]; exact congrArg (· * 5) (by omega)
    repeat' first | refine T_seq_region rfl ?_ | refine T_region rfl ?_ | refine T_ret ?_ | refine T_block ?_ | refine T_skip ?_ | refine T_exit ?_ | (simp (maxSteps := 2000000) only [go_sem, Nat.reduceAdd, Nat.reduceMul, Nat.reduceBEq, Nat.reduceLeDiff, Nat.reduceLT, Nat.reduceEqDiff, at_Int hb hlt, hb.some hlt, hlt, at_DCall ha hi, ha.some hi, hi, s1, s2, Int.toNat_natCast]; try rfl) | refine T_seq ?_
    refine ⟨by simp only [maxLen]; omega, by omega, ?_⟩
    repeat' first | refine T_seq_region rfl ?_ | refine T_region rfl ?_ | refine T_ret ?_ | refine T_block ?_ | refine T_skip ?_ | refine T_exit ?_ | (simp (maxSteps := 2000000) only [go_sem, Nat.reduceAdd, Nat.reduceMul, Nat.reduceBEq, Nat.reduceLeDiff, Nat.reduceLT, Nat.reduceEqDiff]; try rfl) | refine T_seq ?_
    refine ⟨k + 1, [2], hlt, by omega, ?_⟩
    simp (maxSteps := 2000000) only [go_sem, Nat.reduceAdd, Nat.reduceMul, Nat.reduceBEq, Nat.reduceLeDiff, Nat.reduceLT, Nat.reduceEqDiff]
    refine ⟨svInt (wrapS hlt (by omega)), ?_, rfl⟩
    rw [List.take_succ_eq_append_getElem hlt, List.map_append, List.flatMap_append, List.map_cons, List.map_nil, List.flatMap_cons, List.flatMap_nil, List.append_nil, show a.l.getD b.l[k].toNat ⟨0, 0, 0, 0, 0⟩ = a.l[b.l[k].toNat] by simp [List.getD_eq_getElem?_getD, hi]]
    rfl
  · have hge := ge_of_dec hd
    have hke : k = b.l.length := Nat.le_antisymm hk hge
    refine T_exit ?_
    simp (maxSteps := 2000000) only [go_sem, Nat.reduceAdd, Nat.reduceMul, Nat.reduceBEq, Nat.reduceLeDiff, Nat.reduceLT, Nat.reduceEqDiff]
    refine T_pubM 0 (b.l.map (fun k => a.l.getD k.toNat ⟨0, 0, 0, 0, 0⟩)) rfl rfl (by rw [List.length_map, hke]) (by rw [hke, List.take_length]) (by decide) (fun x hx => ?_) h (Hp.le_refl _) (Mines.flat (fun _ => rfl) (fun _ => trivial)) fun s h' e1 e2 e3 e4 => ?_
    · obtain ⟨q, hq, rfl⟩ := List.mem_map.1 hx
      obtain ⟨i, hi, rfl⟩ := List.getElem_of_mem hq
      obtain ⟨s1, s2, _⟩ := hsel i hi
      rw [getD_lt hi] at s1 s2
      have hi' : b.l[i].toNat < a.l.length := by omega
      rw [show a.l.getD b.l[i].toNat ⟨0, 0, 0, 0, 0⟩ = a.l[b.l[i].toNat] by simp [List.getD_eq_getElem?_getD, hi']]
      exact ha.el hi'
    repeat' first | refine T_seq_region rfl ?_ | refine T_region rfl ?_ | refine T_ret ?_ | refine T_block ?_ | refine T_skip ?_ | refine T_exit ?_ | (simp (maxSteps := 2000000) only [go_sem, Nat.reduceAdd, Nat.reduceMul, Nat.reduceBEq, Nat.reduceLeDiff, Nat.reduceLT, Nat.reduceEqDiff]; try rfl) | refine T_seq ?_
    exact ⟨s, rfl, by rw [con_lCall, e1], e2, e4⟩
theorem impl_SelectCalls_fn (a : Sl DCall) (b : Sl Int) (h : Hp) (ha : a.Ok h) (hb : b.Ok h) (hz : Sz.sz (Con.con b) ≤ 1048576) : Ct Try.prog 47 [a.val, b.val] h fun v h' => ∃ s : Sl DCall, v = s.val ∧ Con.con s = F_SelectCalls (Con.con a) (Con.con b) ∧ s.Ok h' ∧ Mine h h' s := by
  have hl := hb.max
  have hl1 := ha.max
  have hz := sz_len hz
  rw [con_len'] at hz
  rw [con_ints, con_lCall, F_SelectCalls]
  refine Ct_of_T (fun A W => by simp) Try.func47 rfl rfl (by simp) fun W0 => ?_
  repeat' first | refine T_seq_region rfl ?_ | refine T_region rfl ?_ | refine T_ret ?_ | refine T_block ?_ | refine T_skip ?_ | refine T_exit ?_ | refine vfn_val (fun _ => impl_isSelection_fn _ _ _ ha hb) ?_ | (simp (maxSteps := 2000000) only [go_sem, Nat.reduceAdd, Nat.reduceMul, Nat.reduceBEq, Nat.reduceLeDiff, Nat.reduceLT, Nat.reduceEqDiff]; try rfl) | refine T_seq ?_
  refine T_cond rfl (fun hc => ?_) (fun hc => ?_)
  · repeat' first | refine T_seq_region rfl ?_ | refine T_region rfl ?_ | refine T_ret ?_ | refine T_block ?_ | refine T_skip ?_ | refine T_exit ?_ | (simp (maxSteps := 2000000) only [go_sem, Nat.reduceAdd, Nat.reduceMul, Nat.reduceBEq, Nat.reduceLeDiff, Nat.reduceLT, Nat.reduceEqDiff]; try rfl) | refine T_seq ?_
    refine ⟨⟨none, 0, []⟩, rfl, ?_, nilOk, Mine.nil⟩
    rw [if_neg (of_decide_eq_false (by simpa only [Bool.not_eq_true'] using hc))]; rfl
  have hsel := of_decide_eq_true (by simpa only [Bool.not_eq_false'] using hc)
  rw [if_pos hsel]
  repeat' first | refine T_seq_region rfl ?_ | refine T_region rfl ?_ | refine T_ret ?_ | refine T_block ?_ | refine T_skip ?_ | refine T_exit ?_ | (simp (maxSteps := 2000000) only [go_sem, Nat.reduceAdd, Nat.reduceMul, Nat.reduceBEq, Nat.reduceLeDiff, Nat.reduceLT, Nat.reduceEqDiff]; try rfl) | refine T_seq ?_
  refine T_loopG (ι := Nat) (fun k => ⟨[(0, true, .c (.v a.val)), (5, true, .c (.s 0)), (13, true, .c (.v b.val)), (14, true, .c (.v (.int .i64 b.l.length))), (15, true, .c (.v (.int .i64 k)))], [(0, .row 78 5 k (((b.l.take k).map (fun k => a.l.getD k.toNat ⟨0, 0, 0, 0, 0⟩)).flatMap Enc.enc))], h, 1⟩) (fun k => k ≤ b.l.length) (fun k => b.l.length - k) 0 (Nat.zero_le _) [0] ?_ ?_
  · simp (maxSteps := 2000000) only [go_sem, Nat.reduceAdd, Nat.reduceMul, Nat.reduceBEq, Nat.reduceLeDiff, Nat.reduceLT, Nat.reduceEqDiff]
    first | exact rfl | exact ⟨rfl, rfl⟩ | exact ⟨rfl, rfl, rfl⟩ | exact ⟨rfl, rfl, rfl, rfl⟩ | exact ⟨rfl, rfl, rfl, rfl, rfl⟩
  intro k hk
  repeat' first | refine T_seq_region rfl ?_ | refine T_region rfl ?_ | refine T_ret ?_ | refine T_block ?_ | refine T_skip ?_ | refine T_exit ?_ | (simp (maxSteps := 2000000) only [go_sem, Nat.reduceAdd, Nat.reduceMul, Nat.reduceBEq, Nat.reduceLeDiff, Nat.reduceLT, Nat.reduceEqDiff]; try rfl) | refine T_seq ?_
  refine T_cond rfl (fun hd => ?_) (fun hd => ?_)
  · have hlt := lt_of_dec hd
    obtain ⟨s1, s2, _⟩ := hsel k hlt
    rw [getD_lt hlt] at s1 s2
    have hi : b.l[k].toNat < a.l.length := by omega
    have hln : (((b.l.take k).map (fun k => a.l.getD k.toNat ⟨0, 0, 0, 0, 0⟩)).flatMap Enc.enc).length = k * 5 := by rw [flat_length Enc.len, List.length_map, List.length_take]; exact congrArg (· * 5) (by omega)
    repeat' first | refine T_seq_region rfl ?_ | refine T_region rfl ?_ | refine T_ret ?_ | refine T_block ?_ | refine T_skip ?_ | refine T_exit ?_ | (simp (maxSteps := 2000000) only [go_sem, Nat.reduceAdd, Nat.reduceMul, Nat.reduceBEq, Nat.reduceLeDiff, Nat.reduceLT, Nat.reduceEqDiff, at_Int hb hlt, hb.some hlt, hlt, at_DCall ha hi, ha.some hi, hi, s1, s2, Int.toNat_natCast]; try rfl) | refine T_seq ?_
    refine ⟨by simp only [maxLen]; omega, by omega, ?_⟩
    repeat' first | refine T_seq_region rfl ?_ | refine T_region rfl ?_ | refine T_ret ?_ | refine T_block ?_ | refine T_skip ?_ | refine T_exit ?_ | (simp (maxSteps := 2000000) only [go_sem, Nat.reduceAdd, Nat.reduceMul, Nat.reduceBEq, Nat.reduceLeDiff, Nat.reduceLT, Nat.reduceEqDiff]; try rfl) | refine T_seq ?_
    refine ⟨k + 1, [2], hlt, by omega, ?_⟩
    simp (maxSteps := 2000000) only [go_sem, Nat.reduceAdd, Nat.reduceMul, Nat.reduceBEq, Nat.reduceLeDiff, Nat.reduceLT, Nat.reduceEqDiff]
    refine ⟨svInt (wrapS hlt (by omega)), ?_, rfl⟩
    rw [List.take_succ_eq_append_getElem hlt, List.map_append, List.flatMap_append, List.map_cons, List.map_nil, List.flatMap_cons, List.flatMap_nil, List.append_nil, show a.l.getD b.l[k].toNat ⟨0, 0, 0, 0, 0⟩ = a.l[b.l[k].toNat] by simp [List.getD_eq_getElem?_getD, hi]]
    rfl
  · have hge := ge_of_dec hd
    have hke : k = b.l.length := Nat.le_antisymm hk hge
    refine T_exit ?_
    simp (maxSteps := 2000000) only [go_sem, Nat.reduceAdd, Nat.reduceMul, Nat.reduceBEq, Nat.reduceLeDiff, Nat.reduceLT, Nat.reduceEqDiff]
    refine T_pubM 0 (b.l.map (fun k => a.l.getD k.toNat ⟨0, 0, 0, 0, 0⟩)) rfl rfl (by rw [List.length_map, hke]) (by rw [hke, List.take_length]) (by decide) (fun x hx => ?_) h (Hp.le_refl _) (Mines.flat (fun _ => rfl) (fun _ => trivial)) fun s h' e1 e2 e3 e4 => ?_
    · obtain ⟨q, hq, rfl⟩ := List.mem_map.1 hx
      obtain ⟨i, hi, rfl⟩ := List.getElem_of_mem hq
      obtain ⟨s1, s2, _⟩ := hsel i hi
      rw [getD_lt hi] at s1 s2
      have hi' : b.l[i].toNat < a.l.length := by omega
      rw [show a.l.getD b.l[i].toNat ⟨0, 0, 0, 0, 0⟩ = a.l[b.l[i].toNat] by simp [List.getD_eq_getElem?_getD, hi']]
      exact ha.el hi'
    repeat' first | refine T_seq_region rfl ?_ | refine T_region rfl ?_ | refine T_ret ?_ | refine T_block ?_ | refine T_skip ?_ | refine T_exit ?_ | (simp (maxSteps := 2000000) only [go_sem, Nat.reduceAdd, Nat.reduceMul, Nat.reduceBEq, Nat.reduceLeDiff, Nat.reduceLT, Nat.reduceEqDiff]; try rfl) | refine T_seq ?_
    exact ⟨s, rfl, by rw [con_lCall, e1], e2, e4⟩
theorem sz_flatl {β : Type} [Sz β] (h0 : ∀ x : β, Sz.sz x = 0) (l : List β) : Sz.sz l = l.length := by
  have : ∀ l : List β, (l.map Sz.sz).sum = 0 := fun l => by induction l with | nil => rfl | cons x l ih => rw [List.map_cons, List.sum_cons, h0, ih]
  rw [sz_list, this, Nat.add_zero]
theorem sz_F_SelectCalls (a : List DCall) (b : List Int) (hz : Sz.sz b ≤ 1048576) : Sz.sz (F_SelectCalls a b) ≤ 1048576 := by
  rw [sz_flatl (fun _ => rfl), F_SelectCalls]
  split
  · rw [List.length_map]; exact sz_len hz
  · exact Nat.zero_le _
end Go.Proofs.Ytkoghfeelonhhaa
