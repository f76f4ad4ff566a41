/- What functions of the given program compute, each as a contract over what its arguments read as. No condition beside those that each theorem states. -/
import Derived.Test.YtkoghfeelonhhaaB1
set_option linter.unusedVariables false
set_option linter.unusedSimpArgs false
namespace Go.Proofs.Ytkoghfeelonhhaa
open Go Go.SL Go.RowKit
set_option maxHeartbeats 1000000
def Mates (n : Nat) (m : List Int) : Prop := m.length = n ∧ (∀ i (hi : i < m.length), 0 ≤ m[i] ∧ m[i] < m.length) ∧ ∀ i (hi : i < m.length), m.getD m[i].toNat 0 = (i : Int)
noncomputable instance (n : Nat) (m : List Int) : Decidable (Mates n m) := Classical.propDecidable _
noncomputable def F_MatesOk (a : List DCall) (m : List Int) : Bool := decide (Mates a.length m)
theorem F_MatesOk_def (a : Sl DCall) (b : Sl Int) : F_MatesOk (Con.con a) (Con.con b) = decide (Mates a.l.length b.l) := by rw [con_ints, con_sl, F_MatesOk, List.length_map]
theorem impl_MatesOk_fn (a : Sl DCall) (b : Sl Int) (h : Hp) (ha : a.Ok h) (hb : b.Ok h) : Ct Try.prog 23 [a.val, b.val] h fun v h' => v = .bool (F_MatesOk (Con.con a) (Con.con b)) ∧ h' = h := by
  rw [F_MatesOk_def]
  have hl := ha.max
  have hl2 := hb.max
  refine Ct_of_T (fun A W => by simp) Try.func23 rfl rfl (by simp) fun W0 => ?_
  repeat' first | refine T_seq_region rfl ?_ | refine T_region rfl ?_ | refine T_ret ?_ | refine T_block ?_ | refine T_skip ?_ | refine T_exit ?_ | (simp only [go_sem, Nat.reduceAdd, Nat.reduceBEq, Nat.reduceLeDiff, Nat.reduceLT, Nat.reduceEqDiff]; try rfl) | refine T_seq ?_
  refine T_cond rfl (fun hc => ?_) (fun hc => ?_)
  · repeat' first | refine T_seq_region rfl ?_ | refine T_region rfl ?_ | refine T_ret ?_ | refine T_block ?_ | refine T_skip ?_ | refine T_exit ?_ | (simp only [go_sem, Nat.reduceAdd, Nat.reduceBEq, Nat.reduceLeDiff, Nat.reduceLT, Nat.reduceEqDiff]; try rfl) | refine T_seq ?_
    exact boolF fun e => ne_of_bne hc (by rw [e.1])
  have hlen : b.l.length = a.l.length := by have := eq_of_bne hc; omega
  repeat' first | refine T_seq_region rfl ?_ | refine T_region rfl ?_ | refine T_ret ?_ | refine T_block ?_ | refine T_skip ?_ | refine T_exit ?_ | (simp only [go_sem, Nat.reduceAdd, Nat.reduceBEq, Nat.reduceLeDiff, Nat.reduceLT, Nat.reduceEqDiff]; try rfl) | refine T_seq ?_
  refine T_loop (ι := Nat) (fun k => ⟨[(1, true, .c (.v b.val)), (12, true, .c (.v b.val)), (13, true, .c (.v (.int .i64 b.l.length))), (14, true, .c (.v (.int .i64 k)))], [], h, 0⟩) (fun k => k ≤ b.l.length ∧ (∀ i (hi : i < b.l.length), i < k → 0 ≤ b.l[i] ∧ b.l[i] < b.l.length ∧ b.l.getD b.l[i].toNat 0 = (i : Int))) (fun k => b.l.length - k) 0 ⟨Nat.zero_le _, fun i _ h => by omega⟩ ?_ ?_
  · simp only [go_sem, Nat.reduceAdd, Nat.reduceBEq, Nat.reduceLeDiff, Nat.reduceLT, Nat.reduceEqDiff]
    rfl
  intro k hk
  repeat' first | refine T_seq_region rfl ?_ | refine T_region rfl ?_ | refine T_ret ?_ | refine T_block ?_ | refine T_skip ?_ | refine T_exit ?_ | (simp only [go_sem, Nat.reduceAdd, Nat.reduceBEq, Nat.reduceLeDiff, Nat.reduceLT, Nat.reduceEqDiff]; try rfl) | refine T_seq ?_
  refine T_cond rfl (fun hd => ?_) (fun hd => ?_)
  · have hlt := lt_of_dec hd
    cases hg : (decide (0 ≤ b.l[k]) && decide (b.l[k] < (b.l.length : Int)))
    · repeat' first | refine T_seq_region rfl ?_ | refine T_region rfl ?_ | refine T_ret ?_ | refine T_block ?_ | refine T_skip ?_ | refine T_exit ?_ | refine vfn_val (fun _ => isIndex_fn _ _ _) ?_ | (simp only [go_sem, Nat.reduceAdd, Nat.reduceBEq, Nat.reduceLeDiff, Nat.reduceLT, Nat.reduceEqDiff, at_Int hb hlt, hb.some hlt, hlt, hg, Bool.not_false, Bool.not_true, Bool.true_or, Bool.false_or, Bool.false_eq_true, reduceCtorEq, false_implies]; try rfl) | refine T_seq ?_
      refine T_cond rfl (fun hq => ?_) (fun hq => ?_)
      · repeat' first | refine T_seq_region rfl ?_ | refine T_region rfl ?_ | refine T_ret ?_ | refine T_block ?_ | refine T_skip ?_ | refine T_exit ?_ | (simp only [go_sem, Nat.reduceAdd, Nat.reduceBEq, Nat.reduceLeDiff, Nat.reduceLT, Nat.reduceEqDiff]; try rfl) | refine T_seq ?_
        refine boolF fun e => ?_
        have h1 := e.2.1 k hlt
        rw [decide_eq_true h1.1, decide_eq_true h1.2] at hg
        cases hg
      · cases hq
    · have hg' := hg
      simp only [Bool.and_eq_true, decide_eq_true_eq] at hg'
      have hi : b.l[k].toNat < b.l.length := by omega
      repeat' first | refine T_seq_region rfl ?_ | refine T_region rfl ?_ | refine T_ret ?_ | refine T_block ?_ | refine T_skip ?_ | refine T_exit ?_ | refine vfn_val (fun _ => isIndex_fn _ _ _) ?_ | (simp only [go_sem, Nat.reduceAdd, Nat.reduceBEq, Nat.reduceLeDiff, Nat.reduceLT, Nat.reduceEqDiff, at_Int hb hlt, hb.some hlt, hlt, hg, hg'.1, hg'.2, at_Int hb hi, Bool.not_false, Bool.not_true, Bool.true_or, Bool.false_or, Bool.false_eq_true]; try rfl) | refine T_seq ?_
      refine T_cond rfl (fun hq => ?_) (fun hq => ?_)
      · repeat' first | refine T_seq_region rfl ?_ | refine T_region rfl ?_ | refine T_ret ?_ | refine T_block ?_ | refine T_skip ?_ | refine T_exit ?_ | (simp only [go_sem, Nat.reduceAdd, Nat.reduceBEq, Nat.reduceLeDiff, Nat.reduceLT, Nat.reduceEqDiff]; try rfl) | refine T_seq ?_
        refine boolF fun e => ne_of_bne hq ?_
        have := e.2.2 k hlt
        rwa [List.getD_eq_getElem?_getD, List.getElem?_eq_getElem hi] at this
      · repeat' first | refine T_seq_region rfl ?_ | refine T_region rfl ?_ | refine T_ret ?_ | refine T_block ?_ | refine T_skip ?_ | refine T_exit ?_ | (simp only [go_sem, Nat.reduceAdd, Nat.reduceBEq, Nat.reduceLeDiff, Nat.reduceLT, Nat.reduceEqDiff]; try rfl) | refine T_seq ?_
        refine ⟨k + 1, ⟨hlt, fun i hi' hik => ?_⟩, by omega, svInt (wrapS hlt (by omega))⟩
        rcases Nat.lt_succ_iff_lt_or_eq.1 hik with h1 | rfl
        · exact hk.2 i hi' h1
        · refine ⟨hg'.1, hg'.2, ?_⟩
          rw [List.getD_eq_getElem?_getD, List.getElem?_eq_getElem hi]
          exact eq_of_bne hq
  · have hge := ge_of_dec hd
    repeat' first | refine T_seq_region rfl ?_ | refine T_region rfl ?_ | refine T_ret ?_ | refine T_block ?_ | refine T_skip ?_ | refine T_exit ?_ | (simp only [go_sem, Nat.reduceAdd, Nat.reduceBEq, Nat.reduceLeDiff, Nat.reduceLT, Nat.reduceEqDiff]; try rfl) | refine T_seq ?_
    exact boolT ⟨hlen, fun i hi => ⟨(hk.2 i hi (by omega)).1, (hk.2 i hi (by omega)).2.1⟩, fun i hi => (hk.2 i hi (by omega)).2.2⟩
theorem spec_MatesOk_fn (a : Sl DCall) (b : Sl Int) (h : Hp) (ha : a.Ok h) (hb : b.Ok h) : Ct Try.prog 20 [a.val, b.val] h fun v h' => v = .bool (F_MatesOk (Con.con a) (Con.con b)) ∧ h' = h := by
  rw [F_MatesOk_def]
  have hl := ha.max
  have hl2 := hb.max
  refine Ct_of_T (fun A W => by simp) Try.func20 rfl rfl (by simp) fun W0 => ?_
  repeat' first | refine T_seq_region rfl ?_ | refine T_region rfl ?_ | refine T_ret ?_ | refine T_block ?_ | refine T_skip ?_ | refine T_exit ?_ | (simp only [go_sem, Nat.reduceAdd, Nat.reduceBEq, Nat.reduceLeDiff, Nat.reduceLT, Nat.reduceEqDiff]; try rfl) | refine T_seq ?_
  refine T_cond rfl (fun hc => ?_) (fun hc => ?_)
  · repeat' first | refine T_seq_region rfl ?_ | refine T_region rfl ?_ | refine T_ret ?_ | refine T_block ?_ | refine T_skip ?_ | refine T_exit ?_ | (simp only [go_sem, Nat.reduceAdd, Nat.reduceBEq, Nat.reduceLeDiff, Nat.reduceLT, Nat.reduceEqDiff]; try rfl) | refine T_seq ?_
    exact boolF fun e => ne_of_bne hc (by rw [e.1])
  have hlen : b.l.length = a.l.length := by have := eq_of_bne hc; omega
  repeat' first | refine T_seq_region rfl ?_ | refine T_region rfl ?_ | refine T_ret ?_ | refine T_block ?_ | refine T_skip ?_ | refine T_exit ?_ | (simp only [go_sem, Nat.reduceAdd, Nat.reduceBEq, Nat.reduceLeDiff, Nat.reduceLT, Nat.reduceEqDiff]; try rfl) | refine T_seq ?_
  refine T_loop (ι := Nat) (fun k => ⟨[(1, true, .c (.v b.val)), (14, true, .c (.v b.val)), (15, true, .c (.v (.int .i64 b.l.length))), (16, true, .c (.v (.int .i64 k)))], [], h, 0⟩) (fun k => k ≤ b.l.length ∧ (∀ i (hi : i < b.l.length), i < k → 0 ≤ b.l[i] ∧ b.l[i] < b.l.length)) (fun k => b.l.length - k) 0 ⟨Nat.zero_le _, fun i _ h => by omega⟩ ?_ ?_
  · simp only [go_sem, Nat.reduceAdd, Nat.reduceBEq, Nat.reduceLeDiff, Nat.reduceLT, Nat.reduceEqDiff]
    rfl
  intro k hk
  repeat' first | refine T_seq_region rfl ?_ | refine T_region rfl ?_ | refine T_ret ?_ | refine T_block ?_ | refine T_skip ?_ | refine T_exit ?_ | (simp only [go_sem, Nat.reduceAdd, Nat.reduceBEq, Nat.reduceLeDiff, Nat.reduceLT, Nat.reduceEqDiff]; try rfl) | refine T_seq ?_
  refine T_cond rfl (fun hd => ?_) (fun hd => ?_)
  · have hlt := lt_of_dec hd
    have hw : IntKind.i64.wrap ((b.l.length : Int) - 1) = (b.l.length : Int) - 1 := wrap64 (by omega)
    repeat' first | refine T_seq_region rfl ?_ | refine T_region rfl ?_ | refine T_ret ?_ | refine T_block ?_ | refine T_skip ?_ | refine T_exit ?_ | refine vfn_val (fun _ => l01In_fn _ _ _ _) ?_ | (simp only [go_sem, Nat.reduceAdd, Nat.reduceBEq, Nat.reduceLeDiff, Nat.reduceLT, Nat.reduceEqDiff, at_Int hb hlt, hb.some hlt, hlt, hw]; try rfl) | refine T_seq ?_
    refine T_cond rfl (fun hq => ?_) (fun hq => ?_)
    · repeat' first | refine T_seq_region rfl ?_ | refine T_region rfl ?_ | refine T_ret ?_ | refine T_block ?_ | refine T_skip ?_ | refine T_exit ?_ | (simp only [go_sem, Nat.reduceAdd, Nat.reduceBEq, Nat.reduceLeDiff, Nat.reduceLT, Nat.reduceEqDiff]; try rfl) | refine T_seq ?_
      refine boolF fun e => ?_
      have h1 := e.2.1 k hlt
      rw [decide_eq_true h1.1, decide_eq_true (show b.l[k] ≤ (b.l.length : Int) - 1 by omega)] at hq
      cases hq
    · repeat' first | refine T_seq_region rfl ?_ | refine T_region rfl ?_ | refine T_ret ?_ | refine T_block ?_ | refine T_skip ?_ | refine T_exit ?_ | (simp only [go_sem, Nat.reduceAdd, Nat.reduceBEq, Nat.reduceLeDiff, Nat.reduceLT, Nat.reduceEqDiff]; try rfl) | refine T_seq ?_
      refine ⟨k + 1, ⟨hlt, fun i hi' hik => ?_⟩, by omega, svInt (wrapS hlt (by omega))⟩
      rcases Nat.lt_succ_iff_lt_or_eq.1 hik with h1 | rfl
      · exact hk.2 i hi' h1
      · simp only [Bool.not_eq_false', Bool.and_eq_true, decide_eq_true_eq] at hq
        exact ⟨hq.1, by omega⟩
  have hge := ge_of_dec hd
  have hall : ∀ i (hi : i < b.l.length), 0 ≤ b.l[i] ∧ b.l[i] < b.l.length := fun i hi => hk.2 i hi (by omega)
  repeat' first | refine T_seq_region rfl ?_ | refine T_region rfl ?_ | refine T_ret ?_ | refine T_block ?_ | refine T_skip ?_ | refine T_exit ?_ | (simp only [go_sem, Nat.reduceAdd, Nat.reduceBEq, Nat.reduceLeDiff, Nat.reduceLT, Nat.reduceEqDiff]; try rfl) | refine T_seq ?_
  refine T_loop (ι := Nat) (fun k => ⟨[(1, true, .c (.v b.val)), (27, true, .c (.v b.val)), (28, true, .c (.v (.int .i64 b.l.length))), (29, true, .c (.v (.int .i64 k)))], [], h, 0⟩) (fun k => k ≤ b.l.length ∧ (∀ i (hi : i < b.l.length), i < k → b.l.getD b.l[i].toNat 0 = (i : Int))) (fun k => b.l.length - k) 0 ⟨Nat.zero_le _, fun i _ h => by omega⟩ ?_ ?_
  · simp only [go_sem, Nat.reduceAdd, Nat.reduceBEq, Nat.reduceLeDiff, Nat.reduceLT, Nat.reduceEqDiff]
    rfl
  intro k hk
  repeat' first | refine T_seq_region rfl ?_ | refine T_region rfl ?_ | refine T_ret ?_ | refine T_block ?_ | refine T_skip ?_ | refine T_exit ?_ | (simp only [go_sem, Nat.reduceAdd, Nat.reduceBEq, Nat.reduceLeDiff, Nat.reduceLT, Nat.reduceEqDiff]; try rfl) | refine T_seq ?_
  refine T_cond rfl (fun hd => ?_) (fun hd => ?_)
  · have hlt := lt_of_dec hd
    have hg' := hall k hlt
    have hi : b.l[k].toNat < b.l.length := by omega
    repeat' first | refine T_seq_region rfl ?_ | refine T_region rfl ?_ | refine T_ret ?_ | refine T_block ?_ | refine T_skip ?_ | refine T_exit ?_ | (simp only [go_sem, Nat.reduceAdd, Nat.reduceBEq, Nat.reduceLeDiff, Nat.reduceLT, Nat.reduceEqDiff, at_Int hb hlt, hb.some hlt, hlt, hg'.1, hg'.2, at_Int hb hi]; try rfl) | refine T_seq ?_
    refine T_cond rfl (fun hq => ?_) (fun hq => ?_)
    · repeat' first | refine T_seq_region rfl ?_ | refine T_region rfl ?_ | refine T_ret ?_ | refine T_block ?_ | refine T_skip ?_ | refine T_exit ?_ | (simp only [go_sem, Nat.reduceAdd, Nat.reduceBEq, Nat.reduceLeDiff, Nat.reduceLT, Nat.reduceEqDiff]; try rfl) | refine T_seq ?_
      refine boolF fun e => ne_of_bne hq ?_
      have := e.2.2 k hlt
      rwa [List.getD_eq_getElem?_getD, List.getElem?_eq_getElem hi] at this
    · repeat' first | refine T_seq_region rfl ?_ | refine T_region rfl ?_ | refine T_ret ?_ | refine T_block ?_ | refine T_skip ?_ | refine T_exit ?_ | (simp only [go_sem, Nat.reduceAdd, Nat.reduceBEq, Nat.reduceLeDiff, Nat.reduceLT, Nat.reduceEqDiff]; try rfl) | refine T_seq ?_
      refine ⟨k + 1, ⟨hlt, fun i hi' hik => ?_⟩, by omega, svInt (wrapS hlt (by omega))⟩
      rcases Nat.lt_succ_iff_lt_or_eq.1 hik with h1 | rfl
      · exact hk.2 i hi' h1
      · rw [List.getD_eq_getElem?_getD, List.getElem?_eq_getElem hi]
        exact eq_of_bne hq
  · have hge := ge_of_dec hd
    repeat' first | refine T_seq_region rfl ?_ | refine T_region rfl ?_ | refine T_ret ?_ | refine T_block ?_ | refine T_skip ?_ | refine T_exit ?_ | (simp only [go_sem, Nat.reduceAdd, Nat.reduceBEq, Nat.reduceLeDiff, Nat.reduceLT, Nat.reduceEqDiff]; try rfl) | refine T_seq ?_
    exact boolT ⟨hlen, hall, fun i hi => hk.2 i hi (by omega)⟩
end Go.Proofs.Ytkoghfeelonhhaa
