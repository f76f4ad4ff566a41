/- What functions of the program compute, and the laws over them. No condition beside those that each theorem states. -/
import Derived.Test.YtkoghfeelonhhaaE1
import Derived.Test.YtkoghfeelonhhaaSL17
set_option linter.unusedVariables false
set_option linter.unusedSimpArgs false
namespace Go.Proofs.Ytkoghfeelonhhaa
open Go Go.SL
set_option maxHeartbeats 1000000
def leftOf (n : Int) (k : Nat) : Int := if n - k < 0 then -1 else n - k
theorem szIntS_fn (a : Sl Int) (n : Int) (h : Hp) (hn : 0 ≤ n ∧ n ≤ 1048576) (hl : a.l.length ≤ 9223372036854775807) : Ct Try.prog 61 [a.val, .int .i64 n] h fun v h' => v = .int .i64 (leftOf n a.l.length) ∧ h' = h := by
  refine Ct_of_T (fun A W => by simp) Try.func61 rfl rfl (by simp) fun W0 => ?_
  repeat' first | refine T_seq_region rfl ?_ | refine T_region rfl ?_ | refine T_ret ?_ | refine T_block ?_ | refine T_skip ?_ | refine T_exit ?_ | (simp only [go_sem, Nat.reduceAdd, Nat.reduceBEq, Nat.reduceLeDiff, Nat.reduceLT, Nat.reduceEqDiff]; try rfl) | refine T_seq ?_
  refine T_cond rfl (fun hc => ?_) (fun hc => ?_)
  · repeat' first | refine T_seq_region rfl ?_ | refine T_region rfl ?_ | refine T_ret ?_ | refine T_block ?_ | refine T_skip ?_ | refine T_exit ?_ | (simp only [go_sem, Nat.reduceAdd, Nat.reduceBEq, Nat.reduceLeDiff, Nat.reduceLT, Nat.reduceEqDiff]; try rfl) | refine T_seq ?_
    rw [wrap64 (by omega)] at hc
    rw [leftOf, if_pos (of_decide_eq_true hc)]
  · repeat' first | refine T_seq_region rfl ?_ | refine T_region rfl ?_ | refine T_ret ?_ | refine T_block ?_ | refine T_skip ?_ | refine T_exit ?_ | (simp only [go_sem, Nat.reduceAdd, Nat.reduceBEq, Nat.reduceLeDiff, Nat.reduceLT, Nat.reduceEqDiff]; try rfl) | refine T_seq ?_
    rw [wrap64 (by omega)] at hc ⊢
    rw [leftOf, if_neg (of_decide_eq_false hc)]
theorem l01In_fn (n lo hi : Int) (h : Hp) : Ct Try.prog 62 [.int .i64 n, .int .i64 lo, .int .i64 hi] h fun v h' => v = .bool (decide (lo ≤ n) && decide (n ≤ hi)) ∧ h' = h := by
  refine Ct_of_T (fun A W => by simp) Try.func62 rfl rfl (by simp) fun W0 => ?_
  repeat' first | refine T_seq_region rfl ?_ | refine T_region rfl ?_ | refine T_ret ?_ | refine T_block ?_ | refine T_skip ?_ | refine T_exit ?_ | (simp only [go_sem, Nat.reduceAdd, Nat.reduceBEq, Nat.reduceLeDiff, Nat.reduceLT, Nat.reduceEqDiff]; try rfl) | refine T_seq ?_
theorem within_fn (n lo hi : Int) (h : Hp) : Ct Try.prog 64 [.int .i64 n, .int .i64 lo, .int .i64 hi] h fun v h' => v = .bool (decide (lo ≤ n) && decide (n ≤ hi)) ∧ h' = h := by
  refine Ct_of_T (fun A W => by simp) Try.func64 rfl rfl (by simp) fun W0 => ?_
  repeat' first | refine T_seq_region rfl ?_ | refine T_region rfl ?_ | refine T_ret ?_ | refine T_block ?_ | refine T_skip ?_ | refine T_exit ?_ | (simp only [go_sem, Nat.reduceAdd, Nat.reduceBEq, Nat.reduceLeDiff, Nat.reduceLT, Nat.reduceEqDiff]; try rfl) | refine T_seq ?_
theorem isMinute_fn (n : Int) (h : Hp) : Ct Try.prog 65 [.int .i64 n] h fun v h' => v = .bool (decide (0 ≤ n) && decide (n ≤ 2880)) ∧ h' = h := by
  refine Ct_of_T (fun A W => by simp) Try.func65 rfl rfl (by simp) fun W0 => ?_
  repeat' first | refine T_seq_region rfl ?_ | refine T_region rfl ?_ | refine T_ret ?_ | refine T_block ?_ | refine T_skip ?_ | refine T_exit ?_ | refine vfn_val (fun _ => within_fn _ _ _ _) ?_ | (simp only [go_sem, Nat.reduceAdd, Nat.reduceBEq, Nat.reduceLeDiff, Nat.reduceLT, Nat.reduceEqDiff]; try rfl) | refine T_seq ?_
def inTbl (n : Int) : Bool := decide (0 ≤ n) && decide (n ≤ 240)
def tblOk (l : List Int) : Bool := decide (l.length = 64) && l.all inTbl
theorem tbl_len {l : List Int} (h : ((l.length : Int) != 64) = true) : tblOk l = false := by
  have := ne_of_bne h
  rw [tblOk, decide_eq_false (by omega), Bool.false_and]
theorem tbl_bad {l : List Int} {k : Nat} (hk : k < l.length) (h : (!(decide (0 ≤ l[k]) && decide (l[k] ≤ 240))) = true) : tblOk l = false := by
  have : l.all inTbl = false := List.all_eq_false.2 ⟨l[k], List.getElem_mem hk, by rw [inTbl]; simpa only [Bool.not_eq_true', Bool.not_eq_true] using h⟩
  rw [tblOk, this, Bool.and_false]
theorem tbl_next {l : List Int} {k : Nat} (hk : k < l.length) (hp : (l.take k).all inTbl = true) (h : (!(decide (0 ≤ l[k]) && decide (l[k] ≤ 240))) = false) : (l.take (k + 1)).all inTbl = true := by
  rw [List.take_succ_eq_append_getElem hk, List.all_append, hp]
  simpa [inTbl] using h
theorem tbl_good {l : List Int} {k : Nat} (h : ((l.length : Int) != 64) = false) (hk : l.length ≤ k) (hp : (l.take k).all inTbl = true) : tblOk l = true := by
  have := eq_of_bne h
  rw [List.take_of_length_le hk] at hp
  rw [tblOk, hp, decide_eq_true (by omega)]; rfl
theorem movesOk_fn (a : Sl Int) (h : Hp) (ha : a.Ok h) (hl : a.l.length ≤ 9223372036854775807) : Ct Try.prog 66 [a.val] h fun v h' => v = .bool (tblOk a.l) ∧ h' = h := by
  refine Ct_of_T (fun A W => by simp) Try.func66 rfl rfl (by simp) fun W0 => ?_
  repeat' first | refine T_seq_region rfl ?_ | refine T_region rfl ?_ | refine T_ret ?_ | refine T_block ?_ | refine T_skip ?_ | refine T_exit ?_ | (simp only [go_sem, Nat.reduceAdd, Nat.reduceBEq, Nat.reduceLeDiff, Nat.reduceLT, Nat.reduceEqDiff]; try rfl) | refine T_seq ?_
  refine T_cond rfl (fun hc => ?_) (fun hc => ?_)
  · repeat' first | refine T_seq_region rfl ?_ | refine T_region rfl ?_ | refine T_ret ?_ | refine T_block ?_ | refine T_skip ?_ | refine T_exit ?_ | (simp only [go_sem, Nat.reduceAdd, Nat.reduceBEq, Nat.reduceLeDiff, Nat.reduceLT, Nat.reduceEqDiff]; try rfl) | refine T_seq ?_
    rw [tbl_len hc]
  repeat' first | refine T_seq_region rfl ?_ | refine T_region rfl ?_ | refine T_ret ?_ | refine T_block ?_ | refine T_skip ?_ | refine T_exit ?_ | (simp only [go_sem, Nat.reduceAdd, Nat.reduceBEq, Nat.reduceLeDiff, Nat.reduceLT, Nat.reduceEqDiff]; try rfl) | refine T_seq ?_
  refine T_loop (ι := Nat) (fun k => ⟨[(8, true, .c (.v a.val)), (9, true, .c (.v (.int .i64 a.l.length))), (10, true, .c (.v (.int .i64 k)))], [], h, 0⟩) (fun k => k ≤ a.l.length ∧ (a.l.take k).all inTbl = true) (fun k => a.l.length - k) 0 ⟨Nat.zero_le _, rfl⟩ ?_ ?_
  · simp only [go_sem, Nat.reduceAdd, Nat.reduceBEq, Nat.reduceLeDiff, Nat.reduceLT, Nat.reduceEqDiff]
    rfl
  intro k hk
  repeat' first | refine T_seq_region rfl ?_ | refine T_region rfl ?_ | refine T_ret ?_ | refine T_block ?_ | refine T_skip ?_ | refine T_exit ?_ | (simp only [go_sem, Nat.reduceAdd, Nat.reduceBEq, Nat.reduceLeDiff, Nat.reduceLT, Nat.reduceEqDiff]; try rfl) | refine T_seq ?_
  refine T_cond rfl (fun hd => ?_) (fun hd => ?_)
  · have hlt := lt_of_dec hd
    repeat' first | refine T_seq_region rfl ?_ | refine T_region rfl ?_ | refine T_ret ?_ | refine T_block ?_ | refine T_skip ?_ | refine T_exit ?_ | refine vfn_val (fun _ => within_fn _ _ _ _) ?_ | (simp only [go_sem, Nat.reduceAdd, Nat.reduceBEq, Nat.reduceLeDiff, Nat.reduceLT, Nat.reduceEqDiff, atI ha hlt, ha.some hlt, hlt]; try rfl) | refine T_seq ?_
    refine T_cond rfl (fun hg => ?_) (fun hg => ?_)
    · repeat' first | refine T_seq_region rfl ?_ | refine T_region rfl ?_ | refine T_ret ?_ | refine T_block ?_ | refine T_skip ?_ | refine T_exit ?_ | (simp only [go_sem, Nat.reduceAdd, Nat.reduceBEq, Nat.reduceLeDiff, Nat.reduceLT, Nat.reduceEqDiff]; try rfl) | refine T_seq ?_
      rw [tbl_bad hlt hg]
    · repeat' first | refine T_seq_region rfl ?_ | refine T_region rfl ?_ | refine T_ret ?_ | refine T_block ?_ | refine T_skip ?_ | refine T_exit ?_ | (simp only [go_sem, Nat.reduceAdd, Nat.reduceBEq, Nat.reduceLeDiff, Nat.reduceLT, Nat.reduceEqDiff]; try rfl) | refine T_seq ?_
      exact ⟨k + 1, ⟨hlt, tbl_next hlt hk.2 hg⟩, by omega, svInt (wrapS hlt (by omega))⟩
  · repeat' first | refine T_seq_region rfl ?_ | refine T_region rfl ?_ | refine T_ret ?_ | refine T_block ?_ | refine T_skip ?_ | refine T_exit ?_ | (simp only [go_sem, Nat.reduceAdd, Nat.reduceBEq, Nat.reduceLeDiff, Nat.reduceLT, Nat.reduceEqDiff]; try rfl) | refine T_seq ?_
    rw [tbl_good hc (ge_of_dec hd) hk.2]
theorem l13Table_fn (n : Int) (a : Sl Int) (h : Hp) (ha : a.Ok h) (hl : a.l.length ≤ 9223372036854775807) : Ct Try.prog 63 [.int .i64 n, a.val] h fun v h' => v = .bool (decide (0 ≤ n) && decide (n ≤ 2880) && tblOk a.l) ∧ h' = h := by
  refine Ct_of_T (fun A W => by simp) Try.func63 rfl rfl (by simp) fun W0 => ?_
  repeat' first | refine T_seq_region rfl ?_ | refine T_region rfl ?_ | refine T_ret ?_ | refine T_block ?_ | refine T_skip ?_ | refine T_exit ?_ | refine vfn_val (fun _ => l01In_fn _ _ _ _) ?_ | (simp only [go_sem, Nat.reduceAdd, Nat.reduceBEq, Nat.reduceLeDiff, Nat.reduceLT, Nat.reduceEqDiff]; try rfl) | refine T_seq ?_
  refine T_cond rfl (fun hc => ?_) (fun hc => ?_)
  · repeat' first | refine T_seq_region rfl ?_ | refine T_region rfl ?_ | refine T_ret ?_ | refine T_block ?_ | refine T_skip ?_ | refine T_exit ?_ | (simp only [go_sem, Nat.reduceAdd, Nat.reduceBEq, Nat.reduceLeDiff, Nat.reduceLT, Nat.reduceEqDiff]; try rfl) | refine T_seq ?_
    rw [Bool.or_eq_true] at hc
    rcases hc with hc | hc
    · rw [Bool.not_eq_true'] at hc; rw [hc, Bool.false_and]
    · rw [tbl_len hc, Bool.and_false]
  rw [Bool.or_eq_false_iff, Bool.not_eq_false'] at hc
  repeat' first | refine T_seq_region rfl ?_ | refine T_region rfl ?_ | refine T_ret ?_ | refine T_block ?_ | refine T_skip ?_ | refine T_exit ?_ | (simp only [go_sem, Nat.reduceAdd, Nat.reduceBEq, Nat.reduceLeDiff, Nat.reduceLT, Nat.reduceEqDiff]; try rfl) | refine T_seq ?_
  refine T_loop (ι := Nat) (fun k => ⟨[(15, true, .c (.v a.val)), (16, true, .c (.v (.int .i64 a.l.length))), (17, true, .c (.v (.int .i64 k)))], [], h, 0⟩) (fun k => k ≤ a.l.length ∧ (a.l.take k).all inTbl = true) (fun k => a.l.length - k) 0 ⟨Nat.zero_le _, rfl⟩ ?_ ?_
  · simp only [go_sem, Nat.reduceAdd, Nat.reduceBEq, Nat.reduceLeDiff, Nat.reduceLT, Nat.reduceEqDiff]
    rfl
  intro k hk
  repeat' first | refine T_seq_region rfl ?_ | refine T_region rfl ?_ | refine T_ret ?_ | refine T_block ?_ | refine T_skip ?_ | refine T_exit ?_ | (simp only [go_sem, Nat.reduceAdd, Nat.reduceBEq, Nat.reduceLeDiff, Nat.reduceLT, Nat.reduceEqDiff]; try rfl) | refine T_seq ?_
  refine T_cond rfl (fun hd => ?_) (fun hd => ?_)
  · have hlt := lt_of_dec hd
    repeat' first | refine T_seq_region rfl ?_ | refine T_region rfl ?_ | refine T_ret ?_ | refine T_block ?_ | refine T_skip ?_ | refine T_exit ?_ | refine vfn_val (fun _ => l01In_fn _ _ _ _) ?_ | (simp only [go_sem, Nat.reduceAdd, Nat.reduceBEq, Nat.reduceLeDiff, Nat.reduceLT, Nat.reduceEqDiff, atI ha hlt, ha.some hlt, hlt]; try rfl) | refine T_seq ?_
    refine T_cond rfl (fun hg => ?_) (fun hg => ?_)
    · repeat' first | refine T_seq_region rfl ?_ | refine T_region rfl ?_ | refine T_ret ?_ | refine T_block ?_ | refine T_skip ?_ | refine T_exit ?_ | (simp only [go_sem, Nat.reduceAdd, Nat.reduceBEq, Nat.reduceLeDiff, Nat.reduceLT, Nat.reduceEqDiff]; try rfl) | refine T_seq ?_
      rw [tbl_bad hlt hg, Bool.and_false]
    · repeat' first | refine T_seq_region rfl ?_ | refine T_region rfl ?_ | refine T_ret ?_ | refine T_block ?_ | refine T_skip ?_ | refine T_exit ?_ | (simp only [go_sem, Nat.reduceAdd, Nat.reduceBEq, Nat.reduceLeDiff, Nat.reduceLT, Nat.reduceEqDiff]; try rfl) | refine T_seq ?_
      exact ⟨k + 1, ⟨hlt, tbl_next hlt hk.2 hg⟩, by omega, svInt (wrapS hlt (by omega))⟩
  · repeat' first | refine T_seq_region rfl ?_ | refine T_region rfl ?_ | refine T_ret ?_ | refine T_block ?_ | refine T_skip ?_ | refine T_exit ?_ | (simp only [go_sem, Nat.reduceAdd, Nat.reduceBEq, Nat.reduceLeDiff, Nat.reduceLT, Nat.reduceEqDiff]; try rfl) | refine T_seq ?_
    rw [tbl_good hc.2 (ge_of_dec hd) hk.2, hc.1]; rfl
def crewOk (c : Crew) : Bool := decide (0 ≤ c.start) && decide (c.start ≤ 12) && (decide (0 ≤ c.fin) && decide (c.fin ≤ 12)) && (decide (0 ≤ c.pause) && decide (c.pause ≤ 2880) && tblOk c.moves.l)
theorem specCrewOk_fn (c : Crew) (h : Hp) (hc : Enc.ok h c) (hl : c.moves.l.length ≤ 9223372036854775807) : Ct Try.prog 15 [.agg #[.int .i64 c.start, .int .i64 c.fin, .int .i64 c.pause, c.moves.val]] h fun v h' => v = .bool (crewOk c) ∧ h' = h := by
  refine Ct_of_T (fun A W => by simp) Try.func15 rfl rfl (by simp) fun W0 => ?_
  repeat' first | refine T_seq_region rfl ?_ | refine T_region rfl ?_ | refine T_ret ?_ | refine vfn_val (fun _ => l01In_fn _ _ _ _) ?_ | refine vfn_val (fun _ => l13Table_fn _ _ _ hc.2.2.2 hl) ?_ | (simp only [go_sem, Nat.reduceAdd, Nat.reduceBEq, Nat.reduceLeDiff, Nat.reduceLT, Nat.reduceEqDiff]; try rfl) | refine T_seq ?_
theorem implCrewOk_fn (c : Crew) (h : Hp) (hc : Enc.ok h c) (hl : c.moves.l.length ≤ 9223372036854775807) : Ct Try.prog 17 [.agg #[.int .i64 c.start, .int .i64 c.fin, .int .i64 c.pause, c.moves.val]] h fun v h' => v = .bool (crewOk c) ∧ h' = h := by
  refine Ct_of_T (fun A W => by simp) Try.func17 rfl rfl (by simp) fun W0 => ?_
  repeat' first | refine T_seq_region rfl ?_ | refine T_region rfl ?_ | refine T_ret ?_ | refine vfn_val (fun _ => within_fn _ _ _ _) ?_ | refine vfn_val (fun _ => isMinute_fn _ _) ?_ | refine vfn_val (fun _ => movesOk_fn _ _ hc.2.2.2 hl) ?_ | (simp only [go_sem, Nat.reduceAdd, Nat.reduceBEq, Nat.reduceLeDiff, Nat.reduceLT, Nat.reduceEqDiff]; try rfl) | refine T_seq ?_
  simp only [crewOk, Bool.and_assoc]
end Go.Proofs.Ytkoghfeelonhhaa
