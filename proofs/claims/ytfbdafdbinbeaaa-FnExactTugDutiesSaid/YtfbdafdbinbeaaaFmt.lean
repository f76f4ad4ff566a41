/- What functions of the given program compute, each as a contract over what its arguments read as. No condition beside those that each theorem states. -/
import Derived.Test.YtfbdafdbinbeaaaTy
import Derived.Test.YtfbdafdbinbeaaaSL22
import Derived.Test.YtfbdafdbinbeaaaSLN
set_option linter.unusedVariables false
set_option linter.unusedSimpArgs false
namespace Go.Proofs.Ytfbdafdbinbeaaa
open Go Go.SL
set_option maxHeartbeats 1000000
theorem bstr1 (n : Int) : bstr [n] = ⟨#[UInt8.ofNat n.toNat]⟩ := rfl
theorem ba_app (a b : List UInt8) : (⟨a.toArray⟩ : ByteArray) ++ ⟨b.toArray⟩ = ⟨(a ++ b).toArray⟩ := by
  ext1
  simp [ByteArray.data_append]
theorem mkDigits_app : ∀ (f n : Nat) (acc : List UInt8), mkDigits f n acc = mkDigits f n [] ++ acc
  | 0, _, acc => rfl
  | f + 1, n, acc => by
    unfold mkDigits
    split
    · rfl
    · rw [mkDigits_app f _ (_ :: acc), mkDigits_app f _ [_]]; simp
theorem mkDigits_len : ∀ (f n : Nat), (mkDigits f n []).length ≤ f
  | 0, _ => Nat.le_refl _
  | f + 1, n => by
    unfold mkDigits
    split
    · exact Nat.zero_le _
    · rw [mkDigits_app, List.length_append]; have := mkDigits_len f (n / 10); simp only [List.length_cons, List.length_nil]; omega
theorem mkDigits_zero {f : Nat} {acc : List UInt8} : mkDigits f 0 acc = acc := by cases f <;> rfl
theorem mkT_size (k : Int) : (mkT k).size ≤ 65 := by
  unfold mkT
  show (List.toArray _).size ≤ 65
  rw [List.size_toArray, List.length_cons]
  split
  · simp
  · have := mkDigits_len 64 k.toNat; omega
theorem markText_fn (k : Int) (h : Hp) (hk : k ≤ 4611686018427387904) : Ct Try.prog 98 [.int .i64 k] h fun v h' => v = .string (mkT k) ∧ h' = h := by
  refine Ct.forget ?_
  refine Ct_of_T (fun A W => by simp) Try.func98 rfl rfl (by simp) fun W0 => ?_
  repeat' first | refine T_seq_region rfl ?_ | refine T_region rfl ?_ | refine T_ret ?_ | refine T_block ?_ | refine T_skip ?_ | refine T_exit ?_ | (simp (maxSteps := 2000000) only [go_sem, Nat.reduceAdd, Nat.reduceMul, Nat.reduceBEq, Nat.reduceLeDiff, Nat.reduceLT, Nat.reduceEqDiff]; try rfl) | refine T_seq ?_ | (refine And.intro ?_ ?_; focus (intros; simp_all only [Bool.or_eq_false_iff, Bool.or_eq_true, Bool.and_eq_true, and_self, true_and, and_true]; done))
  refine T_cond rfl (fun hc => ?_) (fun hc => ?_)
  · repeat' first | refine T_seq_region rfl ?_ | refine T_region rfl ?_ | refine T_ret ?_ | refine T_block ?_ | refine T_skip ?_ | refine T_exit ?_ | (simp (maxSteps := 2000000) only [go_sem, Nat.reduceAdd, Nat.reduceMul, Nat.reduceBEq, Nat.reduceLeDiff, Nat.reduceLT, Nat.reduceEqDiff]; try rfl) | refine T_seq ?_ | (refine And.intro ?_ ?_; focus (intros; simp_all only [Bool.or_eq_false_iff, Bool.or_eq_true, Bool.and_eq_true, and_self, true_and, and_true]; done))
    rw [mkT, if_pos (of_decide_eq_true hc)]
  have hc := of_decide_eq_false hc
  repeat' first | refine T_seq_region rfl ?_ | refine T_region rfl ?_ | refine T_ret ?_ | refine T_block ?_ | refine T_skip ?_ | refine T_exit ?_ | (simp (maxSteps := 2000000) only [go_sem, Nat.reduceAdd, Nat.reduceMul, Nat.reduceBEq, Nat.reduceLeDiff, Nat.reduceLT, Nat.reduceEqDiff]; try rfl) | refine T_seq ?_ | (refine And.intro ?_ ?_; focus (intros; simp_all only [Bool.or_eq_false_iff, Bool.or_eq_true, Bool.and_eq_true, and_self, true_and, and_true]; done))
  refine T_loopG (ι := Nat × Nat × List UInt8) (fun i => ⟨[(0, true, .c (.v (.int .i64 (i.2.1 : Int)))), (3, true, .c (.v (.string ⟨i.2.2.toArray⟩)))], [], h, 0⟩) (fun i => mkDigits i.1 i.2.1 i.2.2 = mkDigits 64 k.toNat [] ∧ i.2.1 < 10 ^ i.1 ∧ i.1 + i.2.2.length = 64 ∧ i.2.1 ≤ 4611686018427387904) (fun i => i.1) (64, k.toNat, []) ⟨rfl, by simp only; omega, rfl, by simp only; omega⟩ [] ?_ ?_
  · simp (maxSteps := 2000000) only [go_sem, Nat.reduceAdd, Nat.reduceMul, Nat.reduceBEq, Nat.reduceLeDiff, Nat.reduceLT, Nat.reduceEqDiff]
    refine ⟨svInt ?_, rfl⟩
    omega
  rintro ⟨f, n, acc⟩ ⟨h1, h2, h3, h4⟩
  simp only at h1 h2 h3 h4
  repeat' first | refine T_seq_region rfl ?_ | refine T_region rfl ?_ | refine T_ret ?_ | refine T_block ?_ | refine T_skip ?_ | refine T_exit ?_ | (simp (maxSteps := 2000000) only [go_sem, Nat.reduceAdd, Nat.reduceMul, Nat.reduceBEq, Nat.reduceLeDiff, Nat.reduceLT, Nat.reduceEqDiff]; try rfl) | refine T_seq ?_ | (refine And.intro ?_ ?_; focus (intros; simp_all only [Bool.or_eq_false_iff, Bool.or_eq_true, Bool.and_eq_true, and_self, true_and, and_true]; done))
  refine T_cond rfl (fun hd => ?_) (fun hd => ?_)
  · have hn : 0 < n := by have := of_decide_eq_true hd; omega
    obtain ⟨f, rfl⟩ : ∃ f', f = f' + 1 := ⟨f - 1, by cases f with | zero => simp at h2; omega | succ f => rfl⟩
    have hm : Int.tmod (n : Int) 10 = ((n % 10 : Nat) : Int) := by rw [Int.tmod_eq_emod_of_nonneg (by omega)]; omega
    have hw1 : IntKind.i64.wrap (48 + ((n % 10 : Nat) : Int)) = ((48 + n % 10 : Nat) : Int) := by rw [wrap64 (by omega)]; omega
    have hw2 : IntKind.u8.wrap ((48 + n % 10 : Nat) : Int) = ((48 + n % 10 : Nat) : Int) := by
      have : n % 10 < 10 := Nat.mod_lt _ (by decide)
      show (((48 + n % 10 : Nat) : Int)) % 256 = _
      omega
    have hq : Int.tdiv (n : Int) 10 = ((n / 10 : Nat) : Int) := by rw [Int.tdiv_eq_ediv_of_nonneg (by omega)]; omega
    have hw3 : IntKind.i64.wrap ((n / 10 : Nat) : Int) = ((n / 10 : Nat) : Int) := wrap64 (by omega)
    refine T_skip ?_
    simp (maxSteps := 2000000) only [go_sem, Nat.reduceAdd, Nat.reduceMul, Nat.reduceBEq, Nat.reduceLeDiff, Nat.reduceLT, Nat.reduceEqDiff]
    refine T_block ?_
    refine T_seq_regionM [0, 0, 0, 0, 0, 4] rfl ?_
    simp (maxSteps := 2000000) only [go_sem, Nat.reduceAdd, Nat.reduceMul, Nat.reduceBEq, Nat.reduceLeDiff, Nat.reduceLT, Nat.reduceEqDiff, hm, hw1, hw2]
    refine ⟨by decide, ?_⟩
    refine vbytesR_at (ns := [((48 + n % 10 : Nat) : Int)]) rfl rfl Try.underlying196 Try.underlying5 Try.underlying9 ?_
    simp (maxSteps := 2000000) only [go_sem, Nat.reduceAdd, Nat.reduceMul, Nat.reduceBEq, Nat.reduceLeDiff, Nat.reduceLT, Nat.reduceEqDiff]
    have hsz : (bstr [((48 + n % 10 : Nat) : Int)]).size = 1 := rfl
    refine ⟨by rw [hsz, List.size_toArray]; omega, ?_⟩
    repeat' first | refine T_seq_region rfl ?_ | refine T_region rfl ?_ | refine T_ret ?_ | refine T_block ?_ | refine T_skip ?_ | refine T_exit ?_ | (simp (maxSteps := 2000000) only [go_sem, Nat.reduceAdd, Nat.reduceMul, Nat.reduceBEq, Nat.reduceLeDiff, Nat.reduceLT, Nat.reduceEqDiff, hq, hw3]; try rfl) | refine T_seq ?_ | (refine And.intro ?_ ?_; focus (intros; simp_all only [Bool.or_eq_false_iff, Bool.or_eq_true, Bool.and_eq_true, and_self, true_and, and_true]; done))
    refine ⟨by decide, ?_⟩
    repeat' first | refine T_seq_region rfl ?_ | refine T_region rfl ?_ | refine T_ret ?_ | refine T_block ?_ | refine T_skip ?_ | refine T_exit ?_ | (simp (maxSteps := 2000000) only [go_sem, Nat.reduceAdd, Nat.reduceMul, Nat.reduceBEq, Nat.reduceLeDiff, Nat.reduceLT, Nat.reduceEqDiff, hq, hw3]; try rfl) | refine T_seq ?_ | (refine And.intro ?_ ?_; focus (intros; simp_all only [Bool.or_eq_false_iff, Bool.or_eq_true, Bool.and_eq_true, and_self, true_and, and_true]; done))
    refine ⟨(f, n / 10, UInt8.ofNat (48 + n % 10) :: acc), [], ⟨?_, ?_, ?_, ?_⟩, by simp only; omega, ?_⟩
    · simp only
      rw [← h1]
      conv => rhs; unfold mkDigits
      rw [if_neg (by omega)]
    · simp only
      rw [Nat.pow_succ] at h2
      omega
    · simp only [List.length_cons]; omega
    · simp only; omega
    simp (maxSteps := 2000000) only [go_sem, Nat.reduceAdd, Nat.reduceMul, Nat.reduceBEq, Nat.reduceLeDiff, Nat.reduceLT, Nat.reduceEqDiff]
    refine ⟨?_, rfl⟩
    rw [bstr1, Int.toNat_natCast]
    congr 5
  · have hn : n = 0 := by have := of_decide_eq_false hd; omega
    subst hn
    rw [mkDigits_zero] at h1
    repeat' first | refine T_seq_region rfl ?_ | refine T_region rfl ?_ | refine T_ret ?_ | refine T_block ?_ | refine T_skip ?_ | refine T_exit ?_ | (simp (maxSteps := 2000000) only [go_sem, Nat.reduceAdd, Nat.reduceMul, Nat.reduceBEq, Nat.reduceLeDiff, Nat.reduceLT, Nat.reduceEqDiff]; try rfl) | refine T_seq ?_ | (refine And.intro ?_ ?_; focus (intros; simp_all only [Bool.or_eq_false_iff, Bool.or_eq_true, Bool.and_eq_true, and_self, true_and, and_true]; done))
    refine ⟨by rw [List.size_toArray]; simp; omega, ?_⟩
    repeat' first | refine T_seq_region rfl ?_ | refine T_region rfl ?_ | refine T_ret ?_ | refine T_block ?_ | refine T_skip ?_ | refine T_exit ?_ | (simp (maxSteps := 2000000) only [go_sem, Nat.reduceAdd, Nat.reduceMul, Nat.reduceBEq, Nat.reduceLeDiff, Nat.reduceLT, Nat.reduceEqDiff]; try rfl) | refine T_seq ?_ | (refine And.intro ?_ ?_; focus (intros; simp_all only [Bool.or_eq_false_iff, Bool.or_eq_true, Bool.and_eq_true, and_self, true_and, and_true]; done))
    rw [mkT, if_neg hc, ← h1]
    exact congrArg Value.string (ba_app [109] acc)
end Go.Proofs.Ytfbdafdbinbeaaa
