/- What functions of the given program compute, each as a contract over what its arguments read as. No condition beside those that each theorem states. -/
import Derived.Test.YtfbdafdbinbeaaaOk1
set_option linter.unusedVariables false
set_option linter.unusedSimpArgs false
namespace Go.Proofs.Ytfbdafdbinbeaaa
open Go Go.SL
set_option maxHeartbeats 1000000

def F_TideOk (t : PTide) : Bool := In t.mean (-1000) 1000 && decide (t.parts.length ≤ 4) && t.parts.all F_PartOk
theorem con_partl (s : Sl DPart) : Con.con s = s.l := List.map_id _
theorem all_take_false {α : Type} {p : α → Bool} {l : List α} {k : Nat} (hk : k < l.length) (h : p l[k] = false) : l.all p = false := List.all_eq_false.2 ⟨l[k], List.getElem_mem hk, by rw [h]; exact Bool.false_ne_true⟩
theorem all_take_next {α : Type} {p : α → Bool} {l : List α} {k : Nat} (hk : k < l.length) (hp : (l.take k).all p = true) (h : p l[k] = true) : (l.take (k + 1)).all p = true := by
  rw [List.take_succ_eq_append_getElem hk, List.all_append, hp]; simp [h]

theorem spec_TideOk_fn (t : DTide) (h : Hp) (ht : Enc.ok h t) : Ct Try.prog 135 [t.v] h fun v h' => v = .bool (F_TideOk (Con.con t)) ∧ h' = h := by
  have hp := ht.2
  have hl := hp.max
  rw [F_TideOk, show (Con.con t).mean = t.mean from rfl, show (Con.con t).parts = t.parts.l from con_partl _]
  refine Ct_of_T (fun A W => by simp) Try.func135 rfl rfl (by simp) fun W0 => ?_
  repeat' first | refine T_seq_region rfl ?_ | refine T_region rfl ?_ | refine T_ret ?_ | refine T_block ?_ | refine T_skip ?_ | refine T_exit ?_ | refine vfn_val (fun _ => l01In_fn _ _ _ _) ?_ | (simp (maxSteps := 2000000) only [go_sem, Nat.reduceAdd, Nat.reduceMul, Nat.reduceBEq, Nat.reduceLeDiff, Nat.reduceLT, Nat.reduceEqDiff]; try rfl) | refine T_seq ?_ | (refine And.intro ?_ ?_; focus (intros; simp_all only [Bool.or_eq_false_iff, Bool.or_eq_true, Bool.and_eq_true, and_self, true_and, and_true]; done))
  refine T_cond rfl (fun hc => ?_) (fun hc => ?_)
  · repeat' first | refine T_seq_region rfl ?_ | refine T_region rfl ?_ | refine T_ret ?_ | refine T_block ?_ | refine T_skip ?_ | refine T_exit ?_ | (simp (maxSteps := 2000000) only [go_sem, Nat.reduceAdd, Nat.reduceMul, Nat.reduceBEq, Nat.reduceLeDiff, Nat.reduceLT, Nat.reduceEqDiff]; try rfl) | refine T_seq ?_ | (refine And.intro ?_ ?_; focus (intros; simp_all only [Bool.or_eq_false_iff, Bool.or_eq_true, Bool.and_eq_true, and_self, true_and, and_true]; done))
    congr 1
    rw [Bool.or_eq_true] at hc
    rcases hc with hc | hc
    · rw [Bool.not_eq_true'] at hc
      rw [In, hc]; rfl
    · rw [decide_eq_false (by have := of_decide_eq_true hc; omega), Bool.and_false, Bool.false_and]
  obtain ⟨hc1, hc2⟩ := Bool.or_eq_false_iff.1 hc
  rw [Bool.not_eq_false'] at hc1
  have hc2 := of_decide_eq_false hc2
  repeat' first | refine T_seq_region rfl ?_ | refine T_region rfl ?_ | refine T_ret ?_ | refine T_block ?_ | refine T_skip ?_ | refine T_exit ?_ | (simp (maxSteps := 2000000) only [go_sem, Nat.reduceAdd, Nat.reduceMul, Nat.reduceBEq, Nat.reduceLeDiff, Nat.reduceLT, Nat.reduceEqDiff]; try rfl) | refine T_seq ?_ | (refine And.intro ?_ ?_; focus (intros; simp_all only [Bool.or_eq_false_iff, Bool.or_eq_true, Bool.and_eq_true, and_self, true_and, and_true]; done))
  refine T_loop (ι := Nat) (fun k => ⟨[(16, true, .c (.v t.parts.val)), (17, true, .c (.v (.int .i64 t.parts.l.length))), (18, true, .c (.v (.int .i64 k)))], [], h, 0⟩) (fun k => k ≤ t.parts.l.length ∧ (t.parts.l.take k).all F_PartOk = true) (fun k => t.parts.l.length - k) 0 ⟨Nat.zero_le _, rfl⟩ ?_ ?_
  · simp (maxSteps := 2000000) only [go_sem, Nat.reduceAdd, Nat.reduceMul, Nat.reduceBEq, Nat.reduceLeDiff, Nat.reduceLT, Nat.reduceEqDiff]
    first | exact rfl | exact ⟨rfl, rfl⟩ | exact ⟨rfl, rfl, rfl⟩ | exact ⟨rfl, rfl, rfl, rfl⟩ | exact ⟨rfl, rfl, rfl, rfl, rfl⟩
  intro k hk
  repeat' first | refine T_seq_region rfl ?_ | refine T_region rfl ?_ | refine T_ret ?_ | refine T_block ?_ | refine T_skip ?_ | refine T_exit ?_ | (simp (maxSteps := 2000000) only [go_sem, Nat.reduceAdd, Nat.reduceMul, Nat.reduceBEq, Nat.reduceLeDiff, Nat.reduceLT, Nat.reduceEqDiff]; try rfl) | refine T_seq ?_ | (refine And.intro ?_ ?_; focus (intros; simp_all only [Bool.or_eq_false_iff, Bool.or_eq_true, Bool.and_eq_true, and_self, true_and, and_true]; done))
  refine T_cond rfl (fun hd => ?_) (fun hd => ?_)
  · have hlt := lt_of_dec hd
    repeat' first | refine T_seq_region rfl ?_ | refine T_region rfl ?_ | refine T_ret ?_ | refine T_block ?_ | refine T_skip ?_ | refine T_exit ?_ | refine vfn_val (fun _ => spec_PartOk_fn _ _ (hp.el hlt)) ?_ | (simp (maxSteps := 2000000) only [go_sem, Nat.reduceAdd, Nat.reduceMul, Nat.reduceBEq, Nat.reduceLeDiff, Nat.reduceLT, Nat.reduceEqDiff, at_DPart hp hlt, hp.some hlt, hlt, Int.toNat_natCast]; try rfl) | refine T_seq ?_ | (refine And.intro ?_ ?_; focus (intros; simp_all only [Bool.or_eq_false_iff, Bool.or_eq_true, Bool.and_eq_true, and_self, true_and, and_true]; done))
    refine T_cond rfl (fun hq => ?_) (fun hq => ?_)
    · rw [Bool.not_eq_true'] at hq
      repeat' first | refine T_seq_region rfl ?_ | refine T_region rfl ?_ | refine T_ret ?_ | refine T_block ?_ | refine T_skip ?_ | refine T_exit ?_ | (simp (maxSteps := 2000000) only [go_sem, Nat.reduceAdd, Nat.reduceMul, Nat.reduceBEq, Nat.reduceLeDiff, Nat.reduceLT, Nat.reduceEqDiff]; try rfl) | refine T_seq ?_ | (refine And.intro ?_ ?_; focus (intros; simp_all only [Bool.or_eq_false_iff, Bool.or_eq_true, Bool.and_eq_true, and_self, true_and, and_true]; done))
      rw [all_take_false hlt hq, Bool.and_false]
    · rw [Bool.not_eq_false'] at hq
      repeat' first | refine T_seq_region rfl ?_ | refine T_region rfl ?_ | refine T_ret ?_ | refine T_block ?_ | refine T_skip ?_ | refine T_exit ?_ | (simp (maxSteps := 2000000) only [go_sem, Nat.reduceAdd, Nat.reduceMul, Nat.reduceBEq, Nat.reduceLeDiff, Nat.reduceLT, Nat.reduceEqDiff]; try rfl) | refine T_seq ?_ | (refine And.intro ?_ ?_; focus (intros; simp_all only [Bool.or_eq_false_iff, Bool.or_eq_true, Bool.and_eq_true, and_self, true_and, and_true]; done))
      exact ⟨k + 1, ⟨hlt, all_take_next hlt hk.2 hq⟩, by omega, svInt (wrapS hlt (by omega))⟩
  · have hge := ge_of_dec hd
    repeat' first | refine T_seq_region rfl ?_ | refine T_region rfl ?_ | refine T_ret ?_ | refine T_block ?_ | refine T_skip ?_ | refine T_exit ?_ | (simp (maxSteps := 2000000) only [go_sem, Nat.reduceAdd, Nat.reduceMul, Nat.reduceBEq, Nat.reduceLeDiff, Nat.reduceLT, Nat.reduceEqDiff]; try rfl) | refine T_seq ?_ | (refine And.intro ?_ ?_; focus (intros; simp_all only [Bool.or_eq_false_iff, Bool.or_eq_true, Bool.and_eq_true, and_self, true_and, and_true]; done))
    have := hk.2
    rw [List.take_of_length_le hge] at this
    rw [this, In, hc1, decide_eq_true (show t.parts.l.length ≤ 4 by omega)]; rfl

theorem impl_TideOk_fn (t : DTide) (h : Hp) (ht : Enc.ok h t) : Ct Try.prog 146 [t.v] h fun v h' => v = .bool (F_TideOk (Con.con t)) ∧ h' = h := by
  have hp := ht.2
  have hl := hp.max
  rw [F_TideOk, show (Con.con t).mean = t.mean from rfl, show (Con.con t).parts = t.parts.l from con_partl _]
  refine Ct_of_T (fun A W => by simp) Try.func146 rfl rfl (by simp) fun W0 => ?_
  repeat' first | refine T_seq_region rfl ?_ | refine T_region rfl ?_ | refine T_ret ?_ | refine T_block ?_ | refine T_skip ?_ | refine T_exit ?_ | refine vfn_val (fun _ => within_fn _ _ _ _) ?_ | (simp (maxSteps := 2000000) only [go_sem, Nat.reduceAdd, Nat.reduceMul, Nat.reduceBEq, Nat.reduceLeDiff, Nat.reduceLT, Nat.reduceEqDiff]; try rfl) | refine T_seq ?_ | (refine And.intro ?_ ?_; focus (intros; simp_all only [Bool.or_eq_false_iff, Bool.or_eq_true, Bool.and_eq_true, and_self, true_and, and_true]; done))
  refine T_cond rfl (fun hc => ?_) (fun hc => ?_)
  · repeat' first | refine T_seq_region rfl ?_ | refine T_region rfl ?_ | refine T_ret ?_ | refine T_block ?_ | refine T_skip ?_ | refine T_exit ?_ | (simp (maxSteps := 2000000) only [go_sem, Nat.reduceAdd, Nat.reduceMul, Nat.reduceBEq, Nat.reduceLeDiff, Nat.reduceLT, Nat.reduceEqDiff]; try rfl) | refine T_seq ?_ | (refine And.intro ?_ ?_; focus (intros; simp_all only [Bool.or_eq_false_iff, Bool.or_eq_true, Bool.and_eq_true, and_self, true_and, and_true]; done))
    congr 1
    rw [Bool.or_eq_true] at hc
    rcases hc with hc | hc
    · rw [Bool.not_eq_true'] at hc
      rw [In, hc]; rfl
    · rw [decide_eq_false (by have := of_decide_eq_true hc; omega), Bool.and_false, Bool.false_and]
  obtain ⟨hc1, hc2⟩ := Bool.or_eq_false_iff.1 hc
  rw [Bool.not_eq_false'] at hc1
  have hc2 := of_decide_eq_false hc2
  repeat' first | refine T_seq_region rfl ?_ | refine T_region rfl ?_ | refine T_ret ?_ | refine T_block ?_ | refine T_skip ?_ | refine T_exit ?_ | (simp (maxSteps := 2000000) only [go_sem, Nat.reduceAdd, Nat.reduceMul, Nat.reduceBEq, Nat.reduceLeDiff, Nat.reduceLT, Nat.reduceEqDiff]; try rfl) | refine T_seq ?_ | (refine And.intro ?_ ?_; focus (intros; simp_all only [Bool.or_eq_false_iff, Bool.or_eq_true, Bool.and_eq_true, and_self, true_and, and_true]; done))
  refine T_loop (ι := Nat) (fun k => ⟨[(16, true, .c (.v t.parts.val)), (17, true, .c (.v (.int .i64 t.parts.l.length))), (18, true, .c (.v (.int .i64 k)))], [], h, 0⟩) (fun k => k ≤ t.parts.l.length ∧ (t.parts.l.take k).all F_PartOk = true) (fun k => t.parts.l.length - k) 0 ⟨Nat.zero_le _, rfl⟩ ?_ ?_
  · simp (maxSteps := 2000000) only [go_sem, Nat.reduceAdd, Nat.reduceMul, Nat.reduceBEq, Nat.reduceLeDiff, Nat.reduceLT, Nat.reduceEqDiff]
    first | exact rfl | exact ⟨rfl, rfl⟩ | exact ⟨rfl, rfl, rfl⟩ | exact ⟨rfl, rfl, rfl, rfl⟩ | exact ⟨rfl, rfl, rfl, rfl, rfl⟩
  intro k hk
  repeat' first | refine T_seq_region rfl ?_ | refine T_region rfl ?_ | refine T_ret ?_ | refine T_block ?_ | refine T_skip ?_ | refine T_exit ?_ | (simp (maxSteps := 2000000) only [go_sem, Nat.reduceAdd, Nat.reduceMul, Nat.reduceBEq, Nat.reduceLeDiff, Nat.reduceLT, Nat.reduceEqDiff]; try rfl) | refine T_seq ?_ | (refine And.intro ?_ ?_; focus (intros; simp_all only [Bool.or_eq_false_iff, Bool.or_eq_true, Bool.and_eq_true, and_self, true_and, and_true]; done))
  refine T_cond rfl (fun hd => ?_) (fun hd => ?_)
  · have hlt := lt_of_dec hd
    repeat' first | refine T_seq_region rfl ?_ | refine T_region rfl ?_ | refine T_ret ?_ | refine T_block ?_ | refine T_skip ?_ | refine T_exit ?_ | refine vfn_val (fun _ => impl_PartOk_fn _ _ (hp.el hlt)) ?_ | (simp (maxSteps := 2000000) only [go_sem, Nat.reduceAdd, Nat.reduceMul, Nat.reduceBEq, Nat.reduceLeDiff, Nat.reduceLT, Nat.reduceEqDiff, at_DPart hp hlt, hp.some hlt, hlt, Int.toNat_natCast]; try rfl) | refine T_seq ?_ | (refine And.intro ?_ ?_; focus (intros; simp_all only [Bool.or_eq_false_iff, Bool.or_eq_true, Bool.and_eq_true, and_self, true_and, and_true]; done))
    refine T_cond rfl (fun hq => ?_) (fun hq => ?_)
    · rw [Bool.not_eq_true'] at hq
      repeat' first | refine T_seq_region rfl ?_ | refine T_region rfl ?_ | refine T_ret ?_ | refine T_block ?_ | refine T_skip ?_ | refine T_exit ?_ | (simp (maxSteps := 2000000) only [go_sem, Nat.reduceAdd, Nat.reduceMul, Nat.reduceBEq, Nat.reduceLeDiff, Nat.reduceLT, Nat.reduceEqDiff]; try rfl) | refine T_seq ?_ | (refine And.intro ?_ ?_; focus (intros; simp_all only [Bool.or_eq_false_iff, Bool.or_eq_true, Bool.and_eq_true, and_self, true_and, and_true]; done))
      rw [all_take_false hlt hq, Bool.and_false]
    · rw [Bool.not_eq_false'] at hq
      repeat' first | refine T_seq_region rfl ?_ | refine T_region rfl ?_ | refine T_ret ?_ | refine T_block ?_ | refine T_skip ?_ | refine T_exit ?_ | (simp (maxSteps := 2000000) only [go_sem, Nat.reduceAdd, Nat.reduceMul, Nat.reduceBEq, Nat.reduceLeDiff, Nat.reduceLT, Nat.reduceEqDiff]; try rfl) | refine T_seq ?_ | (refine And.intro ?_ ?_; focus (intros; simp_all only [Bool.or_eq_false_iff, Bool.or_eq_true, Bool.and_eq_true, and_self, true_and, and_true]; done))
      exact ⟨k + 1, ⟨hlt, all_take_next hlt hk.2 hq⟩, by omega, svInt (wrapS hlt (by omega))⟩
  · have hge := ge_of_dec hd
    repeat' first | refine T_seq_region rfl ?_ | refine T_region rfl ?_ | refine T_ret ?_ | refine T_block ?_ | refine T_skip ?_ | refine T_exit ?_ | (simp (maxSteps := 2000000) only [go_sem, Nat.reduceAdd, Nat.reduceMul, Nat.reduceBEq, Nat.reduceLeDiff, Nat.reduceLT, Nat.reduceEqDiff]; try rfl) | refine T_seq ?_ | (refine And.intro ?_ ?_; focus (intros; simp_all only [Bool.or_eq_false_iff, Bool.or_eq_true, Bool.and_eq_true, and_self, true_and, and_true]; done))
    have := hk.2
    rw [List.take_of_length_le hge] at this
    rw [this, In, hc1, decide_eq_true (show t.parts.l.length ≤ 4 by omega)]; rfl

def dS : DSurge := ⟨0, 0, 0⟩
def srgAt (l : List DSurge) (i : Nat) : Bool := F_SurgeOk (l.getD i dS) && !(decide (0 < (i : Int)) && decide ((l.getD i dS).src ≤ (l.getD (i - 1) dS).src))
def F_ForecastOk (f : PForecast) : Bool := F_TideOk f.tide && In (f.surges.length : Int) 1 6 && decide ((f.surges.getD 0 dS).src = 0) && decide (∀ i, i < f.surges.length → srgAt f.surges i = true)
theorem con_surgel (s : Sl DSurge) : Con.con s = s.l := List.map_id _
theorem sget {l : List DSurge} {i : Nat} (hi : i < l.length) : l.getD i dS = l[i] := by simp [List.getD_eq_getElem?_getD, hi]

theorem spec_ForecastOk_fn (f : DForecast) (h : Hp) (hf : Enc.ok h f) : Ct Try.prog 101 [f.v] h fun v h' => v = .bool (F_ForecastOk (Con.con f)) ∧ h' = h := by
  have hp := hf.2
  have hl := hp.max
  rw [F_ForecastOk, show (Con.con f).tide = Con.con f.tide from rfl, show (Con.con f).surges = f.surges.l from con_surgel _]
  refine Ct_of_T (fun A W => by simp) Try.func101 rfl rfl (by simp) fun W0 => ?_
  by_cases h0 : 0 < f.surges.l.length
  · have hs0 := hp.some h0
    have hf0 : (0 < (f.surges.l.length : Int)) = True := eq_true (by omega)
    have hs1 := (fs_DSurge hp h0).1
    simp only [go_sem, Nat.zero_mul] at hs1
    repeat' first | refine T_seq_region rfl ?_ | refine T_region rfl ?_ | refine T_ret ?_ | refine T_block ?_ | refine T_skip ?_ | refine T_exit ?_ | refine vfn_val (fun _ => spec_TideOk_fn _ _ hf.1) ?_ | refine vfn_val (fun _ => l01In_fn _ _ _ _) ?_ | (simp (maxSteps := 2000000) only [go_sem, Nat.reduceAdd, Nat.reduceMul, Nat.reduceBEq, Nat.reduceLeDiff, Nat.reduceLT, Nat.reduceEqDiff, hf0, hs0, hs1, Int.toNat_zero, Nat.zero_mul, Int.le_refl, implies_true, true_and, and_true]; try rfl) | refine T_seq ?_ | (refine And.intro ?_ ?_; focus (intros; simp_all only [Bool.or_eq_false_iff, Bool.or_eq_true, Bool.and_eq_true, and_self, true_and, and_true]; done))
    refine T_cond rfl (fun hc => ?_) (fun hc => ?_)
    · repeat' first | refine T_seq_region rfl ?_ | refine T_region rfl ?_ | refine T_ret ?_ | refine T_block ?_ | refine T_skip ?_ | refine T_exit ?_ | (simp (maxSteps := 2000000) only [go_sem, Nat.reduceAdd, Nat.reduceMul, Nat.reduceBEq, Nat.reduceLeDiff, Nat.reduceLT, Nat.reduceEqDiff]; try rfl) | refine T_seq ?_ | (refine And.intro ?_ ?_; focus (intros; simp_all only [Bool.or_eq_false_iff, Bool.or_eq_true, Bool.and_eq_true, and_self, true_and, and_true]; done))
      congr 1
      simp only [Bool.or_eq_true, Bool.not_eq_true'] at hc
      rcases hc with (hc | hc) | hc
      · rw [hc]; rfl
      · rw [In, hc, Bool.and_false]; rfl
      · rw [sget h0, decide_eq_false (by simpa using hc), Bool.and_false, Bool.false_and]
    simp only [Bool.or_eq_false_iff, Bool.not_eq_false'] at hc
    obtain ⟨⟨hc1, hc2⟩, hc3⟩ := hc
    have hc3 := eq_of_bne hc3
    have hpre : (F_TideOk (Con.con f.tide) && In (f.surges.l.length : Int) 1 6 && decide ((f.surges.l.getD 0 dS).src = 0)) = true := by rw [hc1, In, hc2, sget h0, decide_eq_true hc3]; rfl
    rw [hpre, Bool.true_and]
    repeat' first | refine T_seq_region rfl ?_ | refine T_region rfl ?_ | refine T_ret ?_ | refine T_block ?_ | refine T_skip ?_ | refine T_exit ?_ | (simp (maxSteps := 2000000) only [go_sem, Nat.reduceAdd, Nat.reduceMul, Nat.reduceBEq, Nat.reduceLeDiff, Nat.reduceLT, Nat.reduceEqDiff]; try rfl) | refine T_seq ?_ | (refine And.intro ?_ ?_; focus (intros; simp_all only [Bool.or_eq_false_iff, Bool.or_eq_true, Bool.and_eq_true, and_self, true_and, and_true]; done))
    refine T_loop (ι := Nat) (fun k => ⟨[(1, true, .c (.p 0 0)), (25, true, .c (.v f.surges.val)), (26, true, .c (.v (.int .i64 f.surges.l.length))), (27, true, .c (.v (.int .i64 k)))], [(0, .box 99 [.v (.int .i64 f.tide.mean), .v f.tide.parts.val, .v f.surges.val])], h, 1⟩) (fun k => k ≤ f.surges.l.length ∧ ∀ i, i < k → srgAt f.surges.l i = true) (fun k => f.surges.l.length - k) 0 ⟨Nat.zero_le _, fun i hi => absurd hi (Nat.not_lt_zero _)⟩ ?_ ?_
    · simp (maxSteps := 2000000) only [go_sem, Nat.reduceAdd, Nat.reduceMul, Nat.reduceBEq, Nat.reduceLeDiff, Nat.reduceLT, Nat.reduceEqDiff]
      first | exact rfl | exact ⟨rfl, rfl⟩ | exact ⟨rfl, rfl, rfl⟩ | exact ⟨rfl, rfl, rfl, rfl⟩ | exact ⟨rfl, rfl, rfl, rfl, rfl⟩
    intro k hk
    repeat' first | refine T_seq_region rfl ?_ | refine T_region rfl ?_ | refine T_ret ?_ | refine T_block ?_ | refine T_skip ?_ | refine T_exit ?_ | (simp (maxSteps := 2000000) only [go_sem, Nat.reduceAdd, Nat.reduceMul, Nat.reduceBEq, Nat.reduceLeDiff, Nat.reduceLT, Nat.reduceEqDiff]; try rfl) | refine T_seq ?_ | (refine And.intro ?_ ?_; focus (intros; simp_all only [Bool.or_eq_false_iff, Bool.or_eq_true, Bool.and_eq_true, and_self, true_and, and_true]; done))
    refine T_cond rfl (fun hd => ?_) (fun hd => ?_)
    · have hlt := lt_of_dec hd
      have fin : ∀ b : Bool, b = srgAt f.surges.l k → (b = false → decide (∀ i, i < f.surges.l.length → srgAt f.surges.l i = true) = false) ∧ (b = true → ∀ i, i < k + 1 → srgAt f.surges.l i = true) := by
        rintro b rfl
        refine ⟨fun e => decide_eq_false fun hh => (by rw [hh k hlt] at e; cases e), fun e i hi => ?_⟩
        rcases Nat.lt_succ_iff_lt_or_eq.1 hi with hi | rfl
        · exact hk.2 i hi
        · exact e
      have hsg := sget hlt
      rcases Nat.eq_zero_or_pos k with hz | hz
      · have hfk : (0 < (k : Int)) = False := eq_false (by omega)
        repeat' first | refine T_seq_region rfl ?_ | refine T_region rfl ?_ | refine T_ret ?_ | refine T_block ?_ | refine T_skip ?_ | refine T_exit ?_ | (simp (maxSteps := 2000000) only [go_sem, Nat.reduceAdd, Nat.reduceMul, Nat.reduceBEq, Nat.reduceLeDiff, Nat.reduceLT, Nat.reduceEqDiff, at_DSurge hp hlt, hp.some hlt, hlt, Int.toNat_natCast]; try rfl) | refine T_seq ?_ | (refine And.intro ?_ ?_; focus (intros; simp_all only [Bool.or_eq_false_iff, Bool.or_eq_true, Bool.and_eq_true, and_self, true_and, and_true]; done))
        refine T_any rfl ?_
        refine V_takes [0] rfl (by kernel_rfl) ?_
        simp (maxSteps := 2000000) only [go_sem, Nat.reduceAdd, Nat.reduceMul, Nat.reduceBEq, Nat.reduceLeDiff, Nat.reduceLT, Nat.reduceEqDiff]
        refine V_branch [1] (by kernel_rfl) (by kernel_rfl) ?_
        simp (maxSteps := 2000000) only [go_sem, Nat.reduceAdd, Nat.reduceMul, Nat.reduceBEq, Nat.reduceLeDiff, Nat.reduceLT, Nat.reduceEqDiff]
        refine vfn_val (fun _ => spec_SurgeOk_fn _ _) ?_
        simp (maxSteps := 2000000) only [go_sem, Nat.reduceAdd, Nat.reduceMul, Nat.reduceBEq, Nat.reduceLeDiff, Nat.reduceLT, Nat.reduceEqDiff]
        refine V_takes [2, 3, 4, 5, 6, 7, 8, 9, 10, 11, 12, 13, 14, 15, 16, 17, 18] rfl (by kernel_rfl) ?_
        simp (maxSteps := 2000000) only [go_sem, Nat.reduceAdd, Nat.reduceMul, Nat.reduceBEq, Nat.reduceLeDiff, Nat.reduceLT, Nat.reduceEqDiff, hfk, decide_false, Bool.and_false, Bool.false_and, Bool.or_false, Bool.false_eq_true, false_implies, implies_true, true_and, reduceCtorEq]
        refine V_done (by kernel_rfl) ?_
        repeat' first | refine T_seq_region rfl ?_ | refine T_region rfl ?_ | refine T_ret ?_ | refine T_block ?_ | refine T_skip ?_ | refine T_exit ?_ | (simp (maxSteps := 2000000) only [go_sem, Nat.reduceAdd, Nat.reduceMul, Nat.reduceBEq, Nat.reduceLeDiff, Nat.reduceLT, Nat.reduceEqDiff]; try rfl) | refine T_seq ?_ | (refine And.intro ?_ ?_; focus (intros; simp_all only [Bool.or_eq_false_iff, Bool.or_eq_true, Bool.and_eq_true, and_self, true_and, and_true]; done))
        refine T_cond rfl (fun hq => ?_) (fun hq => ?_)
        · repeat' first | refine T_seq_region rfl ?_ | refine T_region rfl ?_ | refine T_ret ?_ | refine T_block ?_ | refine T_skip ?_ | refine T_exit ?_ | (simp (maxSteps := 2000000) only [go_sem, Nat.reduceAdd, Nat.reduceMul, Nat.reduceBEq, Nat.reduceLeDiff, Nat.reduceLT, Nat.reduceEqDiff]; try rfl) | refine T_seq ?_ | (refine And.intro ?_ ?_; focus (intros; simp_all only [Bool.or_eq_false_iff, Bool.or_eq_true, Bool.and_eq_true, and_self, true_and, and_true]; done))
          rw [(fin (F_SurgeOk f.surges.l[k]) (by rw [srgAt, hsg]; simp only [hfk, decide_false, Bool.false_and, Bool.not_false, Bool.and_true])).1 (by simpa using hq)]
        · repeat' first | refine T_seq_region rfl ?_ | refine T_region rfl ?_ | refine T_ret ?_ | refine T_block ?_ | refine T_skip ?_ | refine T_exit ?_ | (simp (maxSteps := 2000000) only [go_sem, Nat.reduceAdd, Nat.reduceMul, Nat.reduceBEq, Nat.reduceLeDiff, Nat.reduceLT, Nat.reduceEqDiff]; try rfl) | refine T_seq ?_ | (refine And.intro ?_ ?_; focus (intros; simp_all only [Bool.or_eq_false_iff, Bool.or_eq_true, Bool.and_eq_true, and_self, true_and, and_true]; done))
          exact ⟨k + 1, ⟨hlt, (fin (F_SurgeOk f.surges.l[k]) (by rw [srgAt, hsg]; simp only [hfk, decide_false, Bool.false_and, Bool.not_false, Bool.and_true])).2 (by simpa using hq)⟩, by omega, svInt (wrapS hlt (by omega))⟩
      · have hfk : (0 < (k : Int)) = True := eq_true (by omega)
        have hk1 : k - 1 < f.surges.l.length := by omega
        have hw : IntKind.i64.wrap ((k : Int) - 1) = ((k - 1 : Nat) : Int) := by rw [wrap64 (by omega)]; omega
        repeat' first | refine T_seq_region rfl ?_ | refine T_region rfl ?_ | refine T_ret ?_ | refine T_block ?_ | refine T_skip ?_ | refine T_exit ?_ | (simp (maxSteps := 2000000) only [go_sem, Nat.reduceAdd, Nat.reduceMul, Nat.reduceBEq, Nat.reduceLeDiff, Nat.reduceLT, Nat.reduceEqDiff, at_DSurge hp hlt, hp.some hlt, hlt, Int.toNat_natCast]; try rfl) | refine T_seq ?_ | (refine And.intro ?_ ?_; focus (intros; simp_all only [Bool.or_eq_false_iff, Bool.or_eq_true, Bool.and_eq_true, and_self, true_and, and_true]; done))
        refine T_any rfl ?_
        refine V_takes [0] rfl (by kernel_rfl) ?_
        simp (maxSteps := 2000000) only [go_sem, Nat.reduceAdd, Nat.reduceMul, Nat.reduceBEq, Nat.reduceLeDiff, Nat.reduceLT, Nat.reduceEqDiff]
        refine V_branch [1] (by kernel_rfl) (by kernel_rfl) ?_
        simp (maxSteps := 2000000) only [go_sem, Nat.reduceAdd, Nat.reduceMul, Nat.reduceBEq, Nat.reduceLeDiff, Nat.reduceLT, Nat.reduceEqDiff]
        refine vfn_val (fun _ => spec_SurgeOk_fn _ _) ?_
        simp (maxSteps := 2000000) only [go_sem, Nat.reduceAdd, Nat.reduceMul, Nat.reduceBEq, Nat.reduceLeDiff, Nat.reduceLT, Nat.reduceEqDiff]
        refine V_takes [2, 3, 4, 5, 6, 7, 8, 9, 10, 11, 12, 13, 14, 15, 16, 17, 18] rfl (by kernel_rfl) ?_
        simp (maxSteps := 2000000) only [go_sem, Nat.reduceAdd, Nat.reduceMul, Nat.reduceBEq, Nat.reduceLeDiff, Nat.reduceLT, Nat.reduceEqDiff, hfk, hw, fs_DSurge hp hk1, hp.some hk1, hk1, Int.toNat_natCast, decide_true, and_true, imp_self, implies_true, true_and, Bool.true_and, Bool.and_true]
        refine V_done (by kernel_rfl) ?_
        repeat' first | refine T_seq_region rfl ?_ | refine T_region rfl ?_ | refine T_ret ?_ | refine T_block ?_ | refine T_skip ?_ | refine T_exit ?_ | (simp (maxSteps := 2000000) only [go_sem, Nat.reduceAdd, Nat.reduceMul, Nat.reduceBEq, Nat.reduceLeDiff, Nat.reduceLT, Nat.reduceEqDiff]; try rfl) | refine T_seq ?_ | (refine And.intro ?_ ?_; focus (intros; simp_all only [Bool.or_eq_false_iff, Bool.or_eq_true, Bool.and_eq_true, and_self, true_and, and_true]; done))
        refine T_cond rfl (fun hq => ?_) (fun hq => ?_)
        · repeat' first | refine T_seq_region rfl ?_ | refine T_region rfl ?_ | refine T_ret ?_ | refine T_block ?_ | refine T_skip ?_ | refine T_exit ?_ | (simp (maxSteps := 2000000) only [go_sem, Nat.reduceAdd, Nat.reduceMul, Nat.reduceBEq, Nat.reduceLeDiff, Nat.reduceLT, Nat.reduceEqDiff]; try rfl) | refine T_seq ?_ | (refine And.intro ?_ ?_; focus (intros; simp_all only [Bool.or_eq_false_iff, Bool.or_eq_true, Bool.and_eq_true, and_self, true_and, and_true]; done))
          rw [(fin _ rfl).1 ?_]
          rw [srgAt, sget hlt, sget hk1]
          rcases (Bool.or_eq_true _ _).mp hq with h1 | h1
          · rw [Bool.not_eq_true'] at h1
            rw [h1]; rfl
          · rw [decide_eq_true (show 0 < (k : Int) by omega), decide_eq_true (of_decide_eq_true h1), Bool.and_self, Bool.not_true, Bool.and_false]
        · repeat' first | refine T_seq_region rfl ?_ | refine T_region rfl ?_ | refine T_ret ?_ | refine T_block ?_ | refine T_skip ?_ | refine T_exit ?_ | (simp (maxSteps := 2000000) only [go_sem, Nat.reduceAdd, Nat.reduceMul, Nat.reduceBEq, Nat.reduceLeDiff, Nat.reduceLT, Nat.reduceEqDiff]; try rfl) | refine T_seq ?_ | (refine And.intro ?_ ?_; focus (intros; simp_all only [Bool.or_eq_false_iff, Bool.or_eq_true, Bool.and_eq_true, and_self, true_and, and_true]; done))
          refine ⟨k + 1, ⟨hlt, (fin _ rfl).2 ?_⟩, by omega, svInt (wrapS hlt (by omega))⟩
          rw [srgAt, sget hlt, sget hk1]
          obtain ⟨h1, h2⟩ := Bool.or_eq_false_iff.1 hq
          rw [Bool.not_eq_false'] at h1
          rw [h1, decide_eq_false (of_decide_eq_false h2), Bool.and_false]; rfl
    · have hge := ge_of_dec hd
      repeat' first | refine T_seq_region rfl ?_ | refine T_region rfl ?_ | refine T_ret ?_ | refine T_block ?_ | refine T_skip ?_ | refine T_exit ?_ | (simp (maxSteps := 2000000) only [go_sem, Nat.reduceAdd, Nat.reduceMul, Nat.reduceBEq, Nat.reduceLeDiff, Nat.reduceLT, Nat.reduceEqDiff]; try rfl) | refine T_seq ?_ | (refine And.intro ?_ ?_; focus (intros; simp_all only [Bool.or_eq_false_iff, Bool.or_eq_true, Bool.and_eq_true, and_self, true_and, and_true]; done))
      exact boolT (fun i hi => hk.2 i (by omega))
  · have h1f : (1 ≤ (f.surges.l.length : Int)) = False := eq_false (by omega)
    repeat' first | refine T_seq_region rfl ?_ | refine T_region rfl ?_ | refine T_ret ?_ | refine T_block ?_ | refine T_skip ?_ | refine T_exit ?_ | refine vfn_val (fun _ => spec_TideOk_fn _ _ hf.1) ?_ | refine vfn_val (fun _ => l01In_fn _ _ _ _) ?_ | (simp (maxSteps := 2000000) only [go_sem, Nat.reduceAdd, Nat.reduceMul, Nat.reduceBEq, Nat.reduceLeDiff, Nat.reduceLT, Nat.reduceEqDiff, h1f, decide_false, Bool.false_and, Bool.not_false, Bool.or_true, reduceCtorEq, false_implies, true_and]; try rfl) | refine T_seq ?_ | (refine And.intro ?_ ?_; focus (intros; simp_all only [Bool.or_eq_false_iff, Bool.or_eq_true, Bool.and_eq_true, and_self, true_and, and_true]; done))
    refine T_cond rfl (fun hc => ?_) (fun hc => ?_)
    · repeat' first | refine T_seq_region rfl ?_ | refine T_region rfl ?_ | refine T_ret ?_ | refine T_block ?_ | refine T_skip ?_ | refine T_exit ?_ | (simp (maxSteps := 2000000) only [go_sem, Nat.reduceAdd, Nat.reduceMul, Nat.reduceBEq, Nat.reduceLeDiff, Nat.reduceLT, Nat.reduceEqDiff]; try rfl) | refine T_seq ?_ | (refine And.intro ?_ ?_; focus (intros; simp_all only [Bool.or_eq_false_iff, Bool.or_eq_true, Bool.and_eq_true, and_self, true_and, and_true]; done))
      congr 1
      simp only [In, h1f, decide_false, Bool.false_and, Bool.and_false]
    · simp at hc

theorem impl_ForecastOk_fn (f : DForecast) (h : Hp) (hf : Enc.ok h f) : Ct Try.prog 109 [f.v] h fun v h' => v = .bool (F_ForecastOk (Con.con f)) ∧ h' = h := by
  have hp := hf.2
  have hl := hp.max
  rw [F_ForecastOk, show (Con.con f).tide = Con.con f.tide from rfl, show (Con.con f).surges = f.surges.l from con_surgel _]
  refine Ct_of_T (fun A W => by simp) Try.func109 rfl rfl (by simp) fun W0 => ?_
  by_cases h0 : 0 < f.surges.l.length
  · have hs0 := hp.some h0
    have hf0 : (0 < (f.surges.l.length : Int)) = True := eq_true (by omega)
    have hs1 := (fs_DSurge hp h0).1
    simp only [go_sem, Nat.zero_mul] at hs1
    repeat' first | refine T_seq_region rfl ?_ | refine T_region rfl ?_ | refine T_ret ?_ | refine T_block ?_ | refine T_skip ?_ | refine T_exit ?_ | refine vfn_val (fun _ => impl_TideOk_fn _ _ hf.1) ?_ | refine vfn_val (fun _ => within_fn _ _ _ _) ?_ | (simp (maxSteps := 2000000) only [go_sem, Nat.reduceAdd, Nat.reduceMul, Nat.reduceBEq, Nat.reduceLeDiff, Nat.reduceLT, Nat.reduceEqDiff, hf0, hs0, hs1, Int.toNat_zero, Nat.zero_mul, Int.le_refl, implies_true, true_and, and_true]; try rfl) | refine T_seq ?_ | (refine And.intro ?_ ?_; focus (intros; simp_all only [Bool.or_eq_false_iff, Bool.or_eq_true, Bool.and_eq_true, and_self, true_and, and_true]; done))
    refine T_cond rfl (fun hc => ?_) (fun hc => ?_)
    · repeat' first | refine T_seq_region rfl ?_ | refine T_region rfl ?_ | refine T_ret ?_ | refine T_block ?_ | refine T_skip ?_ | refine T_exit ?_ | (simp (maxSteps := 2000000) only [go_sem, Nat.reduceAdd, Nat.reduceMul, Nat.reduceBEq, Nat.reduceLeDiff, Nat.reduceLT, Nat.reduceEqDiff]; try rfl) | refine T_seq ?_ | (refine And.intro ?_ ?_; focus (intros; simp_all only [Bool.or_eq_false_iff, Bool.or_eq_true, Bool.and_eq_true, and_self, true_and, and_true]; done))
      congr 1
      simp only [Bool.or_eq_true, Bool.not_eq_true'] at hc
      rcases hc with (hc | hc) | hc
      · rw [hc]; rfl
      · rw [In, hc, Bool.and_false]; rfl
      · rw [sget h0, decide_eq_false (by simpa using hc), Bool.and_false, Bool.false_and]
    simp only [Bool.or_eq_false_iff, Bool.not_eq_false'] at hc
    obtain ⟨⟨hc1, hc2⟩, hc3⟩ := hc
    have hc3 := eq_of_bne hc3
    have hpre : (F_TideOk (Con.con f.tide) && In (f.surges.l.length : Int) 1 6 && decide ((f.surges.l.getD 0 dS).src = 0)) = true := by rw [hc1, In, hc2, sget h0, decide_eq_true hc3]; rfl
    rw [hpre, Bool.true_and]
    repeat' first | refine T_seq_region rfl ?_ | refine T_region rfl ?_ | refine T_ret ?_ | refine T_block ?_ | refine T_skip ?_ | refine T_exit ?_ | (simp (maxSteps := 2000000) only [go_sem, Nat.reduceAdd, Nat.reduceMul, Nat.reduceBEq, Nat.reduceLeDiff, Nat.reduceLT, Nat.reduceEqDiff]; try rfl) | refine T_seq ?_ | (refine And.intro ?_ ?_; focus (intros; simp_all only [Bool.or_eq_false_iff, Bool.or_eq_true, Bool.and_eq_true, and_self, true_and, and_true]; done))
    refine T_loop (ι := Nat) (fun k => ⟨[(1, true, .c (.p 0 0)), (25, true, .c (.v f.surges.val)), (26, true, .c (.v (.int .i64 f.surges.l.length))), (27, true, .c (.v (.int .i64 k)))], [(0, .box 99 [.v (.int .i64 f.tide.mean), .v f.tide.parts.val, .v f.surges.val])], h, 1⟩) (fun k => k ≤ f.surges.l.length ∧ ∀ i, i < k → srgAt f.surges.l i = true) (fun k => f.surges.l.length - k) 0 ⟨Nat.zero_le _, fun i hi => absurd hi (Nat.not_lt_zero _)⟩ ?_ ?_
    · simp (maxSteps := 2000000) only [go_sem, Nat.reduceAdd, Nat.reduceMul, Nat.reduceBEq, Nat.reduceLeDiff, Nat.reduceLT, Nat.reduceEqDiff]
      first | exact rfl | exact ⟨rfl, rfl⟩ | exact ⟨rfl, rfl, rfl⟩ | exact ⟨rfl, rfl, rfl, rfl⟩ | exact ⟨rfl, rfl, rfl, rfl, rfl⟩
    intro k hk
    repeat' first | refine T_seq_region rfl ?_ | refine T_region rfl ?_ | refine T_ret ?_ | refine T_block ?_ | refine T_skip ?_ | refine T_exit ?_ | (simp (maxSteps := 2000000) only [go_sem, Nat.reduceAdd, Nat.reduceMul, Nat.reduceBEq, Nat.reduceLeDiff, Nat.reduceLT, Nat.reduceEqDiff]; try rfl) | refine T_seq ?_ | (refine And.intro ?_ ?_; focus (intros; simp_all only [Bool.or_eq_false_iff, Bool.or_eq_true, Bool.and_eq_true, and_self, true_and, and_true]; done))
    refine T_cond rfl (fun hd => ?_) (fun hd => ?_)
    · have hlt := lt_of_dec hd
      have fin : ∀ b : Bool, b = srgAt f.surges.l k → (b = false → decide (∀ i, i < f.surges.l.length → srgAt f.surges.l i = true) = false) ∧ (b = true → ∀ i, i < k + 1 → srgAt f.surges.l i = true) := by
        rintro b rfl
        refine ⟨fun e => decide_eq_false fun hh => (by rw [hh k hlt] at e; cases e), fun e i hi => ?_⟩
        rcases Nat.lt_succ_iff_lt_or_eq.1 hi with hi | rfl
        · exact hk.2 i hi
        · exact e
      have hsg := sget hlt
      rcases Nat.eq_zero_or_pos k with hz | hz
      · have hfk : (0 < (k : Int)) = False := eq_false (by omega)
        repeat' first | refine T_seq_region rfl ?_ | refine T_region rfl ?_ | refine T_ret ?_ | refine T_block ?_ | refine T_skip ?_ | refine T_exit ?_ | (simp (maxSteps := 2000000) only [go_sem, Nat.reduceAdd, Nat.reduceMul, Nat.reduceBEq, Nat.reduceLeDiff, Nat.reduceLT, Nat.reduceEqDiff, at_DSurge hp hlt, hp.some hlt, hlt, Int.toNat_natCast]; try rfl) | refine T_seq ?_ | (refine And.intro ?_ ?_; focus (intros; simp_all only [Bool.or_eq_false_iff, Bool.or_eq_true, Bool.and_eq_true, and_self, true_and, and_true]; done))
        refine T_any rfl ?_
        refine V_takes [0] rfl (by kernel_rfl) ?_
        simp (maxSteps := 2000000) only [go_sem, Nat.reduceAdd, Nat.reduceMul, Nat.reduceBEq, Nat.reduceLeDiff, Nat.reduceLT, Nat.reduceEqDiff]
        refine V_branch [1] (by kernel_rfl) (by kernel_rfl) ?_
        simp (maxSteps := 2000000) only [go_sem, Nat.reduceAdd, Nat.reduceMul, Nat.reduceBEq, Nat.reduceLeDiff, Nat.reduceLT, Nat.reduceEqDiff]
        refine vfn_val (fun _ => impl_SurgeOk_fn _ _) ?_
        simp (maxSteps := 2000000) only [go_sem, Nat.reduceAdd, Nat.reduceMul, Nat.reduceBEq, Nat.reduceLeDiff, Nat.reduceLT, Nat.reduceEqDiff]
        refine V_takes [2, 3, 4, 5, 6, 7, 8, 9, 10, 11, 12, 13, 14, 15, 16, 17, 18] rfl (by kernel_rfl) ?_
        simp (maxSteps := 2000000) only [go_sem, Nat.reduceAdd, Nat.reduceMul, Nat.reduceBEq, Nat.reduceLeDiff, Nat.reduceLT, Nat.reduceEqDiff, hfk, decide_false, Bool.and_false, Bool.false_and, Bool.or_false, Bool.false_eq_true, false_implies, implies_true, true_and, reduceCtorEq]
        refine V_done (by kernel_rfl) ?_
        repeat' first | refine T_seq_region rfl ?_ | refine T_region rfl ?_ | refine T_ret ?_ | refine T_block ?_ | refine T_skip ?_ | refine T_exit ?_ | (simp (maxSteps := 2000000) only [go_sem, Nat.reduceAdd, Nat.reduceMul, Nat.reduceBEq, Nat.reduceLeDiff, Nat.reduceLT, Nat.reduceEqDiff]; try rfl) | refine T_seq ?_ | (refine And.intro ?_ ?_; focus (intros; simp_all only [Bool.or_eq_false_iff, Bool.or_eq_true, Bool.and_eq_true, and_self, true_and, and_true]; done))
        refine T_cond rfl (fun hq => ?_) (fun hq => ?_)
        · repeat' first | refine T_seq_region rfl ?_ | refine T_region rfl ?_ | refine T_ret ?_ | refine T_block ?_ | refine T_skip ?_ | refine T_exit ?_ | (simp (maxSteps := 2000000) only [go_sem, Nat.reduceAdd, Nat.reduceMul, Nat.reduceBEq, Nat.reduceLeDiff, Nat.reduceLT, Nat.reduceEqDiff]; try rfl) | refine T_seq ?_ | (refine And.intro ?_ ?_; focus (intros; simp_all only [Bool.or_eq_false_iff, Bool.or_eq_true, Bool.and_eq_true, and_self, true_and, and_true]; done))
          rw [(fin (F_SurgeOk f.surges.l[k]) (by rw [srgAt, hsg]; simp only [hfk, decide_false, Bool.false_and, Bool.not_false, Bool.and_true])).1 (by simpa using hq)]
        · repeat' first | refine T_seq_region rfl ?_ | refine T_region rfl ?_ | refine T_ret ?_ | refine T_block ?_ | refine T_skip ?_ | refine T_exit ?_ | (simp (maxSteps := 2000000) only [go_sem, Nat.reduceAdd, Nat.reduceMul, Nat.reduceBEq, Nat.reduceLeDiff, Nat.reduceLT, Nat.reduceEqDiff]; try rfl) | refine T_seq ?_ | (refine And.intro ?_ ?_; focus (intros; simp_all only [Bool.or_eq_false_iff, Bool.or_eq_true, Bool.and_eq_true, and_self, true_and, and_true]; done))
          exact ⟨k + 1, ⟨hlt, (fin (F_SurgeOk f.surges.l[k]) (by rw [srgAt, hsg]; simp only [hfk, decide_false, Bool.false_and, Bool.not_false, Bool.and_true])).2 (by simpa using hq)⟩, by omega, svInt (wrapS hlt (by omega))⟩
      · have hfk : (0 < (k : Int)) = True := eq_true (by omega)
        have hk1 : k - 1 < f.surges.l.length := by omega
        have hw : IntKind.i64.wrap ((k : Int) - 1) = ((k - 1 : Nat) : Int) := by rw [wrap64 (by omega)]; omega
        repeat' first | refine T_seq_region rfl ?_ | refine T_region rfl ?_ | refine T_ret ?_ | refine T_block ?_ | refine T_skip ?_ | refine T_exit ?_ | (simp (maxSteps := 2000000) only [go_sem, Nat.reduceAdd, Nat.reduceMul, Nat.reduceBEq, Nat.reduceLeDiff, Nat.reduceLT, Nat.reduceEqDiff, at_DSurge hp hlt, hp.some hlt, hlt, Int.toNat_natCast]; try rfl) | refine T_seq ?_ | (refine And.intro ?_ ?_; focus (intros; simp_all only [Bool.or_eq_false_iff, Bool.or_eq_true, Bool.and_eq_true, and_self, true_and, and_true]; done))
        refine T_any rfl ?_
        refine V_takes [0] rfl (by kernel_rfl) ?_
        simp (maxSteps := 2000000) only [go_sem, Nat.reduceAdd, Nat.reduceMul, Nat.reduceBEq, Nat.reduceLeDiff, Nat.reduceLT, Nat.reduceEqDiff]
        refine V_branch [1] (by kernel_rfl) (by kernel_rfl) ?_
        simp (maxSteps := 2000000) only [go_sem, Nat.reduceAdd, Nat.reduceMul, Nat.reduceBEq, Nat.reduceLeDiff, Nat.reduceLT, Nat.reduceEqDiff]
        refine vfn_val (fun _ => impl_SurgeOk_fn _ _) ?_
        simp (maxSteps := 2000000) only [go_sem, Nat.reduceAdd, Nat.reduceMul, Nat.reduceBEq, Nat.reduceLeDiff, Nat.reduceLT, Nat.reduceEqDiff]
        refine V_takes [2, 3, 4, 5, 6, 7, 8, 9, 10, 11, 12, 13, 14, 15, 16, 17, 18] rfl (by kernel_rfl) ?_
        simp (maxSteps := 2000000) only [go_sem, Nat.reduceAdd, Nat.reduceMul, Nat.reduceBEq, Nat.reduceLeDiff, Nat.reduceLT, Nat.reduceEqDiff, hfk, hw, fs_DSurge hp hk1, hp.some hk1, hk1, Int.toNat_natCast, decide_true, and_true, imp_self, implies_true, true_and, Bool.true_and, Bool.and_true]
        refine V_done (by kernel_rfl) ?_
        repeat' first | refine T_seq_region rfl ?_ | refine T_region rfl ?_ | refine T_ret ?_ | refine T_block ?_ | refine T_skip ?_ | refine T_exit ?_ | (simp (maxSteps := 2000000) only [go_sem, Nat.reduceAdd, Nat.reduceMul, Nat.reduceBEq, Nat.reduceLeDiff, Nat.reduceLT, Nat.reduceEqDiff]; try rfl) | refine T_seq ?_ | (refine And.intro ?_ ?_; focus (intros; simp_all only [Bool.or_eq_false_iff, Bool.or_eq_true, Bool.and_eq_true, and_self, true_and, and_true]; done))
        refine T_cond rfl (fun hq => ?_) (fun hq => ?_)
        · repeat' first | refine T_seq_region rfl ?_ | refine T_region rfl ?_ | refine T_ret ?_ | refine T_block ?_ | refine T_skip ?_ | refine T_exit ?_ | (simp (maxSteps := 2000000) only [go_sem, Nat.reduceAdd, Nat.reduceMul, Nat.reduceBEq, Nat.reduceLeDiff, Nat.reduceLT, Nat.reduceEqDiff]; try rfl) | refine T_seq ?_ | (refine And.intro ?_ ?_; focus (intros; simp_all only [Bool.or_eq_false_iff, Bool.or_eq_true, Bool.and_eq_true, and_self, true_and, and_true]; done))
          rw [(fin _ rfl).1 ?_]
          rw [srgAt, sget hlt, sget hk1]
          rcases (Bool.or_eq_true _ _).mp hq with h1 | h1
          · rw [Bool.not_eq_true'] at h1
            rw [h1]; rfl
          · rw [decide_eq_true (show 0 < (k : Int) by omega), decide_eq_true (of_decide_eq_true h1), Bool.and_self, Bool.not_true, Bool.and_false]
        · repeat' first | refine T_seq_region rfl ?_ | refine T_region rfl ?_ | refine T_ret ?_ | refine T_block ?_ | refine T_skip ?_ | refine T_exit ?_ | (simp (maxSteps := 2000000) only [go_sem, Nat.reduceAdd, Nat.reduceMul, Nat.reduceBEq, Nat.reduceLeDiff, Nat.reduceLT, Nat.reduceEqDiff]; try rfl) | refine T_seq ?_ | (refine And.intro ?_ ?_; focus (intros; simp_all only [Bool.or_eq_false_iff, Bool.or_eq_true, Bool.and_eq_true, and_self, true_and, and_true]; done))
          refine ⟨k + 1, ⟨hlt, (fin _ rfl).2 ?_⟩, by omega, svInt (wrapS hlt (by omega))⟩
          rw [srgAt, sget hlt, sget hk1]
          obtain ⟨h1, h2⟩ := Bool.or_eq_false_iff.1 hq
          rw [Bool.not_eq_false'] at h1
          rw [h1, decide_eq_false (of_decide_eq_false h2), Bool.and_false]; rfl
    · have hge := ge_of_dec hd
      repeat' first | refine T_seq_region rfl ?_ | refine T_region rfl ?_ | refine T_ret ?_ | refine T_block ?_ | refine T_skip ?_ | refine T_exit ?_ | (simp (maxSteps := 2000000) only [go_sem, Nat.reduceAdd, Nat.reduceMul, Nat.reduceBEq, Nat.reduceLeDiff, Nat.reduceLT, Nat.reduceEqDiff]; try rfl) | refine T_seq ?_ | (refine And.intro ?_ ?_; focus (intros; simp_all only [Bool.or_eq_false_iff, Bool.or_eq_true, Bool.and_eq_true, and_self, true_and, and_true]; done))
      exact boolT (fun i hi => hk.2 i (by omega))
  · have h1f : (1 ≤ (f.surges.l.length : Int)) = False := eq_false (by omega)
    repeat' first | refine T_seq_region rfl ?_ | refine T_region rfl ?_ | refine T_ret ?_ | refine T_block ?_ | refine T_skip ?_ | refine T_exit ?_ | refine vfn_val (fun _ => impl_TideOk_fn _ _ hf.1) ?_ | refine vfn_val (fun _ => within_fn _ _ _ _) ?_ | (simp (maxSteps := 2000000) only [go_sem, Nat.reduceAdd, Nat.reduceMul, Nat.reduceBEq, Nat.reduceLeDiff, Nat.reduceLT, Nat.reduceEqDiff, h1f, decide_false, Bool.false_and, Bool.not_false, Bool.or_true, reduceCtorEq, false_implies, true_and]; try rfl) | refine T_seq ?_ | (refine And.intro ?_ ?_; focus (intros; simp_all only [Bool.or_eq_false_iff, Bool.or_eq_true, Bool.and_eq_true, and_self, true_and, and_true]; done))
    refine T_cond rfl (fun hc => ?_) (fun hc => ?_)
    · repeat' first | refine T_seq_region rfl ?_ | refine T_region rfl ?_ | refine T_ret ?_ | refine T_block ?_ | refine T_skip ?_ | refine T_exit ?_ | (simp (maxSteps := 2000000) only [go_sem, Nat.reduceAdd, Nat.reduceMul, Nat.reduceBEq, Nat.reduceLeDiff, Nat.reduceLT, Nat.reduceEqDiff]; try rfl) | refine T_seq ?_ | (refine And.intro ?_ ?_; focus (intros; simp_all only [Bool.or_eq_false_iff, Bool.or_eq_true, Bool.and_eq_true, and_self, true_and, and_true]; done))
      congr 1
      simp only [In, h1f, decide_false, Bool.false_and, Bool.and_false]
    · simp at hc
end Go.Proofs.Ytfbdafdbinbeaaa
